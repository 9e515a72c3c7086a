/- The law AssetChecks answers true for every input and leaves its arguments as they were. No condition. (Part 3 of 6: the kit's printed words and walks, hand-made contracts and plain laws, joined in build order, without what the theorem does not reach.) -/
import Derived.Lib.ItoaLen
import Derived.Test.YtnphnhkinjppjaaGreatDoorGAssetChecks2
set_option linter.unusedVariables false
set_option linter.unusedSimpArgs false
section
set_option maxHeartbeats 8000000
set_option maxRecDepth 100000
namespace Go.Proofs.YtnphnhkinjppjaaGreatDoor.Q
open Go.RowKit Go.Proofs.YtnphnhkinjppjaaGreatDoorW.PrintWords Go.Proofs.YtnphnhkinjppjaaGreatDoorW.PrintLast Go.Proofs.YtnphnhkinjppjaaGreatDoorW.PrintMore
def zEnd (l : List Int) : Nat → Nat → Nat
  | 0, k => k
  | d + 1, k => if l.getD k 0 = 0 then zEnd l d (k + 1) else k
def runF (l : List Int) : Nat → Nat → Nat × Nat → Nat × Nat
  | 0, _, b => b
  | d + 1, i, b => runF l d (i + 1) (if b.2 - b.1 < zEnd l (8 - i) i - i then (i, zEnd l (8 - i) i) else b)
theorem zEnd_le (l : List Int) : ∀ (d k : Nat), k ≤ zEnd l d k ∧ zEnd l d k ≤ k + d
  | 0, k => ⟨Nat.le_refl _, Nat.le_refl _⟩
  | d + 1, k => by
    unfold zEnd
    split
    · have := zEnd_le l d (k + 1); omega
    · omega
theorem r_sub {k i : Nat} (h1 : i ≤ k) (h2 : k ≤ 8) : wrap64 ((k : Int) - (i : Int)) = ((k - i : Nat) : Int) := by unfold wrap64; omega
theorem r_suc {k : Nat} (h2 : k ≤ 8) : wrap64 ((k : Int) + 1) = ((k + 1 : Nat) : Int) := by unfold wrap64; omega
theorem r_lt {k : Nat} (h : k < 8) : ((k : Int) < 8) = True := eq_true (by omega)
theorem r_ltd {k : Nat} (h : k < 8) : decide ((k : Int) < 8) = true := decide_eq_true (by omega)
theorem r_ge {k : Nat} (h : ¬ k < 8) : ((k : Int) < 8) = False := eq_false (by omega)
theorem r_ged {k : Nat} (h : ¬ k < 8) : decide ((k : Int) < 8) = false := decide_eq_false (by omega)
theorem r_gt {x y : Nat} (h : y < x) : decide ((x : Int) > (y : Int)) = true := decide_eq_true (by omega)
theorem r_ngt {x y : Nat} (h : ¬ y < x) : decide ((x : Int) > (y : Int)) = false := decide_eq_false (by omega)
theorem zEnd_on {l : List Int} {i k e : Nat} (h : zEnd l (8 - i) i = e) (h2 : zEnd l (8 - i) i = zEnd l (8 - k) k) (hk : k < 8) (hz : l.getD k 0 = 0) : zEnd l (8 - i) i = zEnd l (8 - (k + 1)) (k + 1) := by
  rw [h2, show 8 - k = (8 - (k + 1)) + 1 from by omega, zEnd, if_pos hz]
theorem zEnd_at {l : List Int} {i k : Nat} (h2 : zEnd l (8 - i) i = zEnd l (8 - k) k) (hk : k < 8) (hz : ¬ l.getD k 0 = 0) : zEnd l (8 - i) i = k := by
  rw [h2, show 8 - k = (8 - (k + 1)) + 1 from by omega, zEnd, if_neg hz]
theorem zEnd_8 {l : List Int} {i k : Nat} (h2 : zEnd l (8 - i) i = zEnd l (8 - k) k) (hk : ¬ k < 8) (hk8 : k ≤ 8) : zEnd l (8 - i) i = k := by
  rw [h2, show 8 - k = 0 from by omega, zEnd]
theorem runF_up {l : List Int} {i a b e : Nat} {r : Nat × Nat} (h : runF l (8 - i) i (a, b) = r) (hi : i < 8) (he : zEnd l (8 - i) i = e) (hc : b - a < e - i) : runF l (8 - (i + 1)) (i + 1) (i, e) = r := by
  rw [show 8 - i = (8 - (i + 1)) + 1 from by omega, runF] at h
  rw [he] at h
  simpa [hc] using h
theorem runF_stay {l : List Int} {i a b e : Nat} {r : Nat × Nat} (h : runF l (8 - i) i (a, b) = r) (hi : i < 8) (he : zEnd l (8 - i) i = e) (hc : ¬ b - a < e - i) : runF l (8 - (i + 1)) (i + 1) (a, b) = r := by
  rw [show 8 - i = (8 - (i + 1)) + 1 from by omega, runF] at h
  rw [he] at h
  simpa [hc] using h
theorem runF_8 {l : List Int} {i a b : Nat} {r : Nat × Nat} (h : runF l (8 - i) i (a, b) = r) (hi : ¬ i < 8) : a = r.1 ∧ b = r.2 := by
  rw [show 8 - i = 0 from by omega, runF] at h
  subst h
  exact ⟨rfl, rfl⟩
structure RunI (l : List Int) (gg i a b : Nat) (r : Nat × Nat) : Prop where
  m : 8 - i ≤ gg
  i8 : i ≤ 8
  ab : a ≤ b
  b8 : b ≤ 8
  res : runF l (8 - i) i (a, b) = r
structure RunK (l : List Int) (gg i k : Nat) : Prop where
  m : 8 - k ≤ gg
  ik : i ≤ k
  k8 : k ≤ 8
  e : zEnd l (8 - i) i = zEnd l (8 - k) k
theorem RunK.next {l : List Int} {gg i k : Nat} (h : RunK l gg i k) (hk : k < 8) (hz : l.getD k 0 = 0) : RunK l (8 - (k + 1)) i (k + 1) := ⟨by omega, by have := h.ik; omega, by omega, zEnd_on rfl h.e hk hz⟩
theorem RunK.less {l : List Int} {gg i k : Nat} (h : RunK l gg i k) (hk : k < 8) : 8 - (k + 1) < gg := by have := h.m; omega
theorem RunI.less {l : List Int} {gg i a b : Nat} {r : Nat × Nat} (h : RunI l gg i a b r) (hk : i < 8) : 8 - (i + 1) < gg := by have := h.m; omega
theorem RunI.up {l : List Int} {gg i a b e : Nat} {r : Nat × Nat} (h : RunI l gg i a b r) (hi : i < 8) (he : zEnd l (8 - i) i = e) (hie : i ≤ e) (he8 : e ≤ 8) (hc : b - a < e - i) : RunI l (8 - (i + 1)) (i + 1) i e r := ⟨by omega, by omega, hie, he8, runF_up h.res hi he hc⟩
theorem RunI.stay {l : List Int} {gg i a b e : Nat} {r : Nat × Nat} (h : RunI l gg i a b r) (hi : i < 8) (he : zEnd l (8 - i) i = e) (hc : ¬ b - a < e - i) : RunI l (8 - (i + 1)) (i + 1) a b r := ⟨by omega, by omega, h.ab, h.b8, runF_stay h.res hi he hc⟩
theorem address_run.calls (l0 l1 l2 l3 l4 l5 l6 l7 : Int) (w : World) :
    Calls Tryz.prog 96 #[.agg #[.int .u64 l0, .int .u64 l1, .int .u64 l2, .int .u64 l3, .int .u64 l4, .int .u64 l5, .int .u64 l6, .int .u64 l7]] w fun e w' => e = .returned (.tuple #[.int .i64 ((runF [l0, l1, l2, l3, l4, l5, l6, l7] 8 0 (0, 0)).1 : Nat), .int .i64 ((runF [l0, l1, l2, l3, l4, l5, l6, l7] 8 0 (0, 0)).2 : Nat)]) ∧ Below w.heap.size w w' := by
  obtain ⟨l, hl⟩ : ∃ l, l = [l0, l1, l2, l3, l4, l5, l6, l7] := ⟨_, rfl⟩
  rw [← hl]
  obtain ⟨res, hres⟩ : ∃ res, runF l 8 0 (0, 0) = res := ⟨_, rfl⟩
  have H0 : Aside0 (RunI l 8 0 0 0 res) := ⟨⟨by omega, by omega, by omega, by omega, hres⟩⟩
  rw [hres]
  clear hres
  have hu := Tryz.underlying126
  have hX : (w.alloc (.cells #[.int .u64 l0, .int .u64 l1, .int .u64 l2, .int .u64 l3, .int .u64 l4, .int .u64 l5, .int .u64 l6, .int .u64 l7] 126)).heap[w.heap.size]? = some (.cells #[.int .u64 l0, .int .u64 l1, .int .u64 l2, .int .u64 l3, .int .u64 l4, .int .u64 l5, .int .u64 l6, .int .u64 l7] 126 (0, 0)) := heap_alloc_new _ _
  have HX : Aside0 (∀ k : Nat, k < 8 → (w.alloc (.cells #[.int .u64 l0, .int .u64 l1, .int .u64 l2, .int .u64 l3, .int .u64 l4, .int .u64 l5, .int .u64 l6, .int .u64 l7] 126)).cell? ⟨w.heap.size, k, none⟩ = some (.int .u64 (l.getD k 0))) := ⟨fun k hk => by
    unfold World.cell?
    simp only [hX]
    rcases k with _ | _ | _ | _ | _ | _ | _ | _ | k <;> first | omega | (subst hl; rfl)⟩
  clear hX hl
  have HB : Aside0 (Below w.heap.size w (w.alloc (.cells #[.int .u64 l0, .int .u64 l1, .int .u64 l2, .int .u64 l3, .int .u64 l4, .int .u64 l5, .int .u64 l6, .int .u64 l7] 126))) := ⟨below_alloc (Below.refl _ _) _⟩
  go_enter Tryz.func96, Tryz.ntmps96
  go_upto_region 1 with (fail)
  obtain ⟨g, hg⟩ : ∃ g, w.heap.size = g := ⟨_, rfl⟩
  rw [hg] at HX
  simp only [hg]
  clear hg
  generalize w.alloc (.cells #[.int .u64 l0, .int .u64 l1, .int .u64 l2, .int .u64 l3, .int .u64 l4, .int .u64 l5, .int .u64 l6, .int .u64 l7] 126) = W at HX HB ⊢
  skip
  go_wp2_with fail
  go_loopg [2, 3, 6] 8 (fun gg v2 v3 v6 wr => ∃ (i a b : Nat), v2 = .int .i64 (a : Int) ∧ v3 = .int .i64 (b : Int) ∧ v6 = .int .i64 (i : Int) ∧ Aside0 (RunI l gg i a b res) ∧ wr = W)
  case atStart => exact ⟨0, 0, 0, rfl, rfl, rfl, H0, rfl⟩
  case round =>
    obtain ⟨i, a, b, rfl, rfl, rfl, HI, hwr⟩ := hrel
    rw [hwr]
    clear hwr
    clear H0
    by_cases hi8 : i < 8
    · have hlt := r_lt hi8
      have hlt2 := r_ltd hi8
      have HI8 := Aside0.mk hi8
      clear hi8
      go_wp2_with fail
      go_loopg [5] 8 (fun gg v5 wr => ∃ (k : Nat), v5 = .int .i64 (k : Int) ∧ Aside0 (RunK l gg i k) ∧ wr = W)
      case atStart => exact ⟨i, rfl, ⟨⟨by omega, Nat.le_refl _, HI.out.i8, rfl⟩⟩, rfl⟩
      case round =>
        clear hlt hlt2
        obtain ⟨k, rfl, HK, hwr2⟩ := hrel
        rw [hwr2]
        clear hwr2
        by_cases hk : k < 8
        · have hlk := r_lt hk
          have hlk2 := r_ltd hk
          have hc : W.cell? ⟨g, k, none⟩ = some (.int .u64 (l.getD k 0)) := HX.out k hk
          by_cases hz : l.getD k 0 = 0
          · rw [hz] at hc
            have HF : Aside0 (RunK l (8 - (k + 1)) i (k + 1)) := ⟨HK.out.next hk hz⟩
            have HL := Aside0.mk (HK.out.less hk)
            have HS : Aside0 (wrap64 ((k : Int) + 1) = ((k + 1 : Nat) : Int)) := ⟨r_suc HK.out.k8⟩
            clear hk hz HK
            go_upto_region 6 with (fail)
            clear hlk hlk2 hc
            go_wp2_with fail
            go_roundg (8 - (k + 1))
            case measure => exact HL.out
            case rel => exact ⟨k + 1, by rw [HS.out], HF, rfl⟩
          · have HZ : Aside0 (zEnd l (8 - i) i = k) := ⟨zEnd_at HK.out.e hk hz⟩
            have hz1 : (l.getD k 0 == 0) = false := by simpa using hz
            have hz2 : decide (l.getD k 0 = 0) = false := by simpa using hz
            have HIK : Aside0 (i ≤ k) := ⟨HK.out.ik⟩
            have HK8 : Aside0 (k ≤ 8) := ⟨HK.out.k8⟩
            clear hk hz HK
            generalize l.getD k 0 = z at hc hz1 hz2
            go_upto_region 7 with (fail)
            clear hlk hlk2 hc hz1 hz2
            by_cases hcmp : b - a < k - i
            · have hcmp1 : decide (wrap64 ((k : Int) - (i : Int)) > wrap64 ((b : Int) - (a : Int))) = true := by rw [r_sub HIK.out HK8.out, r_sub HI.out.ab HI.out.b8]; exact r_gt hcmp
              have hcmp2 : (wrap64 ((k : Int) - (i : Int)) > wrap64 ((b : Int) - (a : Int))) = True := eq_true (of_decide_eq_true hcmp1)
              have HN : Aside0 (RunI l (8 - (i + 1)) (i + 1) i k res) := ⟨HI.out.up HI8.out HZ.out HIK.out HK8.out hcmp⟩
              have HL := Aside0.mk (HI.out.less HI8.out)
              have HS : Aside0 (wrap64 ((i : Int) + 1) = ((i + 1 : Nat) : Int)) := ⟨r_suc HI.out.i8⟩
              clear hcmp
              go_wp2_with fail
              go_roundg (8 - (i + 1))
              case measure => exact HL.out
              case rel => exact ⟨i + 1, i, k, rfl, rfl, by rw [HS.out], HN, rfl⟩
            · have hcmp1 : decide (wrap64 ((k : Int) - (i : Int)) > wrap64 ((b : Int) - (a : Int))) = false := by rw [r_sub HIK.out HK8.out, r_sub HI.out.ab HI.out.b8]; exact r_ngt hcmp
              have hcmp2 : (wrap64 ((k : Int) - (i : Int)) > wrap64 ((b : Int) - (a : Int))) = False := eq_false (of_decide_eq_false hcmp1)
              have HN : Aside0 (RunI l (8 - (i + 1)) (i + 1) a b res) := ⟨HI.out.stay HI8.out HZ.out hcmp⟩
              have HL := Aside0.mk (HI.out.less HI8.out)
              have HS : Aside0 (wrap64 ((i : Int) + 1) = ((i + 1 : Nat) : Int)) := ⟨r_suc HI.out.i8⟩
              clear hcmp
              go_wp2_with fail
              go_roundg (8 - (i + 1))
              case measure => exact HL.out
              case rel => exact ⟨i + 1, a, b, rfl, rfl, by rw [HS.out], HN, rfl⟩
        · have HZ : Aside0 (zEnd l (8 - i) i = k) := ⟨zEnd_8 HK.out.e hk HK.out.k8⟩
          have hlk := r_ge hk
          have hlk2 := r_ged hk
          have HIK : Aside0 (i ≤ k) := ⟨HK.out.ik⟩
          have HK8 : Aside0 (k ≤ 8) := ⟨HK.out.k8⟩
          clear hk HK
          go_upto_region 7 with (fail)
          clear hlk hlk2
          by_cases hcmp : b - a < k - i
          · have hcmp1 : decide (wrap64 ((k : Int) - (i : Int)) > wrap64 ((b : Int) - (a : Int))) = true := by rw [r_sub HIK.out HK8.out, r_sub HI.out.ab HI.out.b8]; exact r_gt hcmp
            have hcmp2 : (wrap64 ((k : Int) - (i : Int)) > wrap64 ((b : Int) - (a : Int))) = True := eq_true (of_decide_eq_true hcmp1)
            have HN : Aside0 (RunI l (8 - (i + 1)) (i + 1) i k res) := ⟨HI.out.up HI8.out HZ.out HIK.out HK8.out hcmp⟩
            have HL := Aside0.mk (HI.out.less HI8.out)
            have HS : Aside0 (wrap64 ((i : Int) + 1) = ((i + 1 : Nat) : Int)) := ⟨r_suc HI.out.i8⟩
            clear hcmp
            go_wp2_with fail
            go_roundg (8 - (i + 1))
            case measure => exact HL.out
            case rel => exact ⟨i + 1, i, k, rfl, rfl, by rw [HS.out], HN, rfl⟩
          · have hcmp1 : decide (wrap64 ((k : Int) - (i : Int)) > wrap64 ((b : Int) - (a : Int))) = false := by rw [r_sub HIK.out HK8.out, r_sub HI.out.ab HI.out.b8]; exact r_ngt hcmp
            have hcmp2 : (wrap64 ((k : Int) - (i : Int)) > wrap64 ((b : Int) - (a : Int))) = False := eq_false (of_decide_eq_false hcmp1)
            have HN : Aside0 (RunI l (8 - (i + 1)) (i + 1) a b res) := ⟨HI.out.stay HI8.out HZ.out hcmp⟩
            have HL := Aside0.mk (HI.out.less HI8.out)
            have HS : Aside0 (wrap64 ((i : Int) + 1) = ((i + 1 : Nat) : Int)) := ⟨r_suc HI.out.i8⟩
            clear hcmp
            go_wp2_with fail
            go_roundg (8 - (i + 1))
            case measure => exact HL.out
            case rel => exact ⟨i + 1, a, b, rfl, rfl, by rw [HS.out], HN, rfl⟩
    · have HR := Aside0.mk (runF_8 HI.out.res hi8)
      have hlt := r_ge hi8
      have hlt2 := r_ged hi8
      clear hi8
      obtain ⟨he1, he2⟩ := HR.out
      subst he1 he2
      clear HR
      go_wp2_with fail
      exact bodyPost_ret (v := .tuple #[.int .i64 (res.1 : Int), .int .i64 (res.2 : Int)]) (by simp [results, Tryz.results96, go_sem]) rfl ⟨rfl, HB.out⟩
def hexD (n : Nat) : UInt8 := [48, 49, 50, 51, 52, 53, 54, 55, 56, 57, 97, 98, 99, 100, 101, 102].getD n 0
def hexL : Nat → Nat → List UInt8
  | 0, _ => []
  | k + 1, n => if n < 16 then [hexD n] else hexL k (n / 16) ++ [hexD (n % 16)]
theorem pow2_16 (w : World) : Calls Tryz.prog 144 #[.int .i64 16] w fun e w' => e = .returned (.bool true) ∧ Below w.heap.size w w' := by
  go_enter Tryz.func144, Tryz.ntmps144
  go_wp2
  go_ret
  exact ⟨rfl, by repeat (first | (with_reducible apply below_alloc) | (with_reducible apply pw_below_drewN) | (with_reducible apply below_drew1) | exact Below.refl _ _)⟩
theorem tz16 (w : World) (hW : WOK w) : Calls Tryz.prog 145 #[.int .u64 16] w fun e w' => e = .returned (.int .i64 4) ∧ Below w.heap.size w w' := by
  have h := Tryz.bits_TrailingZeros 16 (by decide) w (fun _ => hW.bit)
  rw [show Lib.ctz 64 16 = 4 from by decide] at h
  refine h.mono ?_
  rintro e w' ⟨rfl, rfl⟩
  exact ⟨rfl, Below.refl _ _⟩
theorem bits_and15 (x : Nat) (hx : x < 18446744073709551616) : Go.bits .and .u64 (x : Int) 15 = ((x % 16 : Nat) : Int) := by
  have e : ∀ y : Nat, y < 18446744073709551616 → (BitVec.ofInt 64 (y : Int)).toNat = y := fun y hy => by rw [BitVec.toNat_ofInt]; simp; omega
  unfold Go.bits
  show IntKind.u64.wrap ((((BitVec.ofInt 64 (x : Int)) &&& (BitVec.ofInt 64 ((15 : Nat) : Int))).toNat : Nat) : Int) = _
  rw [BitVec.toNat_and, e x hx, e 15 (by decide), show (15 : Nat) = 2 ^ 4 - 1 from rfl, Nat.and_two_pow_sub_one_eq_mod]
  exact IntWalk.u64_in _ ⟨by omega, by have := Nat.mod_lt x (show 0 < 2 ^ 4 by decide); omega⟩
structure HexAt (w0 : World) (g : Nat) (n0 : Nat) (wr : World) (i u : Nat) : Prop where
  arr : ∃ cs : Array Value, wr.heap[g]? = some (.cells cs 166 (0, 0)) ∧ cs.size = 65 ∧ ∃ ds : List UInt8, cs.toList.drop i = ds.map (fun d => Value.int .u8 d.toNat) ∧ ds.length = 65 - i ∧ hexL 4 n0 = hexL (i - 61) u ++ ds
  lo : 62 ≤ i
  hi : i ≤ 65
  small : u < 16 ^ (i - 61)
  bel : Below w0.heap.size w0 wr
theorem drop_set_self {l : List Value} {j : Nat} (hj : j < l.length) (v : Value) : (l.set j v).drop j = v :: l.drop (j + 1) := by
  rw [List.drop_eq_getElem_cons (by simpa using hj), List.getElem_set_self, List.drop_set_of_lt (by omega)]
theorem HexAt.put {w0 wr : World} {g n0 j n : Nat} (h : HexAt w0 g n0 wr (j + 1) n) (hn : 16 ≤ n) (hg : w0.heap.size ≤ g) (dv : UInt8) (hd : dv = hexD (n % 16)) : HexAt w0 g n0 (wr.setCell ⟨g, j, none⟩ (.int .u8 dv.toNat)) j (n / 16) := by
  obtain ⟨⟨cs, hx, hs, ds, hd1, hd2, hd3⟩, hlo, hhi, hsm, hbl⟩ := h
  have hj : 62 ≤ j := by
    rcases Nat.lt_or_ge j 62 with h | h
    · rw [show j + 1 - 61 = 1 from by omega] at hsm; omega
    · exact h
  have hk : j + 1 - 61 = (j - 61) + 1 := by omega
  rw [hk] at hsm hd3
  refine ⟨⟨_, blk_set hx j _, by simpa using hs, dv :: ds, ?_, by simp; omega, ?_⟩, hj, by omega, ?_, hbl.setCell hg _⟩
  · rw [Array.toList_setIfInBounds, drop_set_self (by simpa using by omega), hd1]
    rfl
  · rw [hd3, hexL, if_neg (by omega), hd, List.append_assoc]
    rfl
  · rw [Nat.pow_succ] at hsm
    exact Nat.div_lt_of_lt_mul (by rw [Nat.mul_comm]; exact hsm)
theorem HexAt.last {w0 wr : World} {g n0 j n : Nat} (h : HexAt w0 g n0 wr (j + 1) n) (hn : n < 16) (hg : w0.heap.size ≤ g) (dv : UInt8) (hd : dv = hexD n) :
    Below w0.heap.size w0 (wr.setCell ⟨g, j, none⟩ (.int .u8 dv.toNat)) ∧ ∃ cs : Array Value, (wr.setCell ⟨g, j, none⟩ (.int .u8 dv.toNat)).heap[g]? = some (.cells cs 166 (0, 0)) ∧ cs.size = 65 ∧ cs.toList.drop j = (hexL 4 n0).map (fun d => Value.int .u8 d.toNat) := by
  obtain ⟨⟨cs, hx, hs, ds, hd1, hd2, hd3⟩, hlo, hhi, hsm, hbl⟩ := h
  refine ⟨hbl.setCell hg _, _, blk_set hx j _, by simpa using hs, ?_⟩
  rw [Array.toList_setIfInBounds, drop_set_self (by simpa using by omega), hd1, hd3, show j + 1 - 61 = (j - 61) + 1 from by omega, hexL, if_pos hn, hd]
  rfl
theorem digit_ix : ∀ d : Nat, d < 16 → ∀ h, (⟨#[48, 49, 50, 51, 52, 53, 54, 55, 56, 57, 97, 98, 99, 100, 101, 102, 103, 104, 105, 106, 107, 108, 109, 110, 111, 112, 113, 114, 115, 116, 117, 118, 119, 120, 121, 122]⟩ : ByteArray)[d]'h = hexD d := by decide
theorem digit_at (n : Nat) (h : (Go.bits .and .u64 (n : Int) 15).toNat < (⟨#[48, 49, 50, 51, 52, 53, 54, 55, 56, 57, 97, 98, 99, 100, 101, 102, 103, 104, 105, 106, 107, 108, 109, 110, 111, 112, 113, 114, 115, 116, 117, 118, 119, 120, 121, 122]⟩ : ByteArray).size) (hb : Go.bits .and .u64 (n : Int) 15 = ((n % 16 : Nat) : Int)) :
    (⟨#[48, 49, 50, 51, 52, 53, 54, 55, 56, 57, 97, 98, 99, 100, 101, 102, 103, 104, 105, 106, 107, 108, 109, 110, 111, 112, 113, 114, 115, 116, 117, 118, 119, 120, 121, 122]⟩ : ByteArray)[(Go.bits .and .u64 (n : Int) 15).toNat]'h = hexD (n % 16) := by
  have e : (Go.bits .and .u64 (n : Int) 15).toNat = n % 16 := by rw [hb]; exact Int.toNat_natCast _
  have hlt : n % 16 < 16 := Nat.mod_lt _ (by decide)
  have key : ∀ m (hm : m < (⟨#[48, 49, 50, 51, 52, 53, 54, 55, 56, 57, 97, 98, 99, 100, 101, 102, 103, 104, 105, 106, 107, 108, 109, 110, 111, 112, 113, 114, 115, 116, 117, 118, 119, 120, 121, 122]⟩ : ByteArray).size), m = n % 16 → (⟨#[48, 49, 50, 51, 52, 53, 54, 55, 56, 57, 97, 98, 99, 100, 101, 102, 103, 104, 105, 106, 107, 108, 109, 110, 111, 112, 113, 114, 115, 116, 117, 118, 119, 120, 121, 122]⟩ : ByteArray)[m]'hm = hexD (n % 16) := fun m hm e2 => by subst e2; exact digit_ix _ hlt _
  exact key _ h e
theorem hex_slice (ga j : Nat) (hj : j < 65) (h0 : 0 < j) : ∀ W, (Instr.sliceAt 166 (.pointer (some ⟨ga, 0, none⟩)) (some (.int .i64 (j : Int))) none none).run Tryz.prog W = .ok (.slice (some ⟨ga, j, none⟩) (65 - j) (65 - j)) W := fun W => by
  have hal : Tryz.prog.arrayLen 166 = 65 := by kernel_rfl
  rw [run_sliceAt_array_l W 166 ⟨ga, 0, none⟩ (by kernel_rfl) .i64 (j : Int) (by omega) (by rw [hal]; omega), hal]
  go_simp
  omega
theorem hex_string {W : World} {ga j : Nat} {cs : Array Value} {l : List UInt8} (hx : W.heap[ga]? = some (.cells cs 166 (0, 0))) (hs : cs.size = 65) (hd : cs.toList.drop j = l.map (fun d => Value.int .u8 d.toNat)) (hj : j < 65) :
    (convert 60 9 (.slice (some ⟨ga, j, none⟩) (65 - j) (65 - j))).run Tryz.prog W = .ok (.string ⟨l.toArray⟩) W := by
  have hlen : l.length = 65 - j := by
    have := congrArg List.length hd
    simp only [List.length_drop, List.length_map, Array.length_toList] at this
    omega
  have hr : ReadsInt W .u8 (some ⟨ga, j, none⟩) (65 - j) (l.map (fun d => (d.toNat : Int))) := by
    refine ⟨by simp [hlen], by omega, fun _ => ⟨_, rfl, fun i hi => ?_⟩⟩
    have e : (⟨ga, j, none⟩ : Addr).add i = ⟨ga, j + i, none⟩ := by
      unfold Addr.add
      by_cases h0 : i = 0
      · rw [if_pos h0, h0]; rfl
      · rw [if_neg h0]
    rw [e]
    unfold World.cell?
    simp only [hx]
    have h2 := congrArg (fun q => q[i]?) hd
    simp only [List.getElem?_drop, List.getElem?_map] at h2
    rw [List.getElem?_eq_getElem (show i < l.length from by omega)] at h2
    simp only [Option.isSome_none, Bool.false_eq_true, if_false]
    rw [← Array.getElem?_toList, h2]
    simp [List.getElem?_eq_getElem (show i < l.length from by omega)]
  have := string_of_reads (P := Tryz.prog) (src := 60) (dst := 9) (e := 5) (c := 65 - j) (by kernel_rfl) (by kernel_rfl) (by kernel_rfl) hr
  have e : strOfNums (l.map (fun d => (d.toNat : Int))) = ⟨l.toArray⟩ := by
    have h2 : ∀ l : List UInt8, (l.map (fun d => (d.toNat : Int))).map (fun n => UInt8.ofNat n.toNat) = l := fun l => by
      induction l with
      | nil => rfl
      | cons a t ih => simp only [List.map_cons, ih, Int.toNat_natCast, UInt8.ofNat_toNat]
    unfold strOfNums
    rw [h2]
  rw [this, e]
theorem formatBits16 (u : Nat) (hu : u < 65536) (w : World) (hW : WOK w) : Calls Tryz.prog 124 #[.slice none 0 0, .int .u64 (u : Int), .int .i64 16, .bool false, .bool false] w fun e w' => e = .returned (.tuple #[.slice none 0 0, .string ⟨(hexL 4 u).toArray⟩]) ∧ Below w.heap.size w w' := by
  have HW := Aside0.mk hW
  clear hW
  go_enter Tryz.func124, Tryz.ntmps124
  go_wp2_with fail
  refine (pow2_16 _).mono ?_
  rintro e w2 ⟨rfl, hb⟩
  have hX := blk_below (heap_alloc_new w (.cells Tryz.zeroCells166 166)) hb
  have hB := (below_alloc (Below.refl w.heap.size w) (.cells Tryz.zeroCells166 166)).trans (hb.mono (by simp))
  have HX := Aside0.mk hX
  have HB := Aside0.mk hB
  have hG : w.heap.size ≤ w.heap.size := Nat.le_refl _
  revert HX hG
  clear hb hX hB
  generalize hga : w.heap.size = ga
  intro HX hG
  have HG : Aside0 (w.heap.size ≤ ga) := ⟨by omega⟩
  clear hG
  go_wp2_with fail
  refine (tz16 _ (HW.out.below (hga ▸ HB.out))).mono ?_
  rintro e w3 ⟨rfl, hb⟩
  have HX3 := Aside0.mk (blk_below HX.out hb)
  have HB3 := Aside0.mk (HB.out.trans (hb.mono (HB.out.size)))
  clear hb HX HB
  clear hga
  have H0 : Aside0 (HexAt w ga u w3 65 u) := ⟨⟨⟨_, HX3.out, by rfl, [], by rfl, rfl, by simp⟩, by omega, by omega, by simpa using hu, HB3.out⟩⟩
  clear HX3 HB3
  go_wp2_with fail
  go_loopg [1, 13] 65 (fun gg v1 v13 wr => ∃ (i n : Nat), i ≤ gg ∧ v1 = .int .u64 (n : Int) ∧ v13 = .int .i64 (i : Int) ∧ Aside0 (HexAt w ga u wr i n))
  case atStart => exact ⟨65, u, by omega, rfl, rfl, H0⟩
  case round =>
    obtain ⟨i, n, hig, rfl, rfl, HA⟩ := hrel
    clear H0
    by_cases hn : 16 ≤ n
    · have hn1 : ((n : Int) ≥ 16) = True := eq_true (by omega)
      have hn2 : decide ((n : Int) ≥ 16) = true := decide_eq_true (by omega)
      have hA := HA.out
      obtain ⟨⟨cs, hx, hs, ds, hd1, hd2, hd3⟩, hlo, hhi, hsm, hbl⟩ := hA
      have hi2 : 63 ≤ i := by
        rcases Nat.lt_or_ge i 63 with h | h
        · rw [show i - 61 = 1 from by omega] at hsm; omega
        · exact h
      obtain ⟨j, rfl⟩ : ∃ j, i = j + 1 := ⟨i - 1, by omega⟩
      have hw1 : wrap64 (j : Int) = (j : Int) := by unfold wrap64; omega
      have hw0 : ((j + 1 : Nat) : Int) - 1 = (j : Int) := by omega
      have hq0 : Go.bits .and .u64 (n : Int) 15 = ((n % 16 : Nat) : Int) := bits_and15 n (by
        have : 16 ^ (j + 1 - 61) ≤ 16 ^ 4 := Nat.pow_le_pow_right (by decide) (by omega)
        omega)
      have hq1 : (0 ≤ Go.bits .and .u64 (n : Int) 15 ∧ Go.bits .and .u64 (n : Int) 15 < 36) = True := eq_true (by rw [hq0]; omega)
      have hj1 : ((j : Int) < 65) = True := eq_true (by omega)
      have hc1 : ∃ old, wr.cell? ⟨ga, j, none⟩ = some old := by
        unfold World.cell?
        simp only [hx]
        exact ⟨_, Array.getElem?_eq_getElem (show j < cs.size from by omega)⟩
      obtain ⟨old, hc⟩ := hc1
      have hf : wr.frozen? ⟨ga, j, none⟩ = false := by
        unfold World.frozen?
        simp only [hx]
        simp
      clear hx hs hd1 hd2 hd3 hsm hbl
      have HQ0 := Aside0.mk hq0
      clear hq0
      go_wp2_with fail
      go_roundg j
      case measure => omega
      case rel => exact ⟨j, n / 16, Nat.le_refl _, by simp, rfl, ⟨HA.out.put hn HG.out _ (digit_at n _ HQ0.out)⟩⟩
    · have hA := HA.out
      obtain ⟨⟨cs, hx, hs, ds, hd1, hd2, hd3⟩, hlo, hhi, hsm, hbl⟩ := hA
      obtain ⟨j, rfl⟩ : ∃ j, i = j + 1 := ⟨i - 1, by omega⟩
      have hn1 : ((n : Int) ≥ 16) = False := eq_false (by omega)
      have hn2 : decide ((n : Int) ≥ 16) = false := decide_eq_false (by omega)
      have hw1 : wrap64 (j : Int) = (j : Int) := by unfold wrap64; omega
      have hw0 : ((j + 1 : Nat) : Int) - 1 = (j : Int) := by omega
      have hn36 : ((n : Int) < 36) = True := eq_true (by omega)
      have hj1 : ((j : Int) < 65) = True := eq_true (by omega)
      have hc1 : ∃ old, wr.cell? ⟨ga, j, none⟩ = some old := by
        unfold World.cell?
        simp only [hx]
        exact ⟨_, Array.getElem?_eq_getElem (show j < cs.size from by omega)⟩
      obtain ⟨old, hc⟩ := hc1
      have hf : wr.frozen? ⟨ga, j, none⟩ = false := by
        unfold World.frozen?
        simp only [hx]
        simp
      have HJ : Aside0 (62 ≤ j + 1 ∧ j + 1 ≤ 65) := ⟨hlo, hhi⟩
      clear hx hs hd1 hd2 hd3 hsm hbl
      go_upto_region 30 with (fail)
      have hD : ∀ h, (⟨#[48, 49, 50, 51, 52, 53, 54, 55, 56, 57, 97, 98, 99, 100, 101, 102, 103, 104, 105, 106, 107, 108, 109, 110, 111, 112, 113, 114, 115, 116, 117, 118, 119, 120, 121, 122]⟩ : ByteArray)[n]'h = hexD n := fun h => digit_ix n (by omega) h
      have hl := HA.out.last (by omega) HG.out (hexD n) rfl
      simp only [hD]
      obtain ⟨hb, cs, hx, hs, hd⟩ := hl
      have hj2 := HJ.out
      have hsl := hex_slice ga j (by omega) (by omega)
      have hst := hex_string hx hs hd (by omega)
      have HB := Aside0.mk hb
      clear hx hs hd hb hc hf HA hD
      generalize wr.setCell ⟨ga, j, none⟩ (.int .u8 (hexD n).toNat) = W at hst HB ⊢
      go_wp2_with fail
      exact bodyPost_ret (v := .tuple #[.slice none 0 0, .string ⟨(hexL 4 u).toArray⟩]) (by simp [results, Tryz.results124, go_sem]) rfl ⟨rfl, HB.out⟩
theorem formatUint16 (u : Nat) (hu : u < 65536) (w : World) (hW : WOK w) : Calls Tryz.prog 120 #[.int .u64 (u : Int), .int .i64 16] w fun e w' => e = .returned (.string ⟨(hexL 4 u).toArray⟩) ∧ Below w.heap.size w w' := by
  go_enter Tryz.func120, Tryz.ntmps120
  go_wp2_with fail
  refine (formatBits16 u hu _ (hW.below (by repeat (first | (with_reducible apply below_alloc) | (with_reducible apply pw_below_drewN) | (with_reducible apply below_drew1) | exact Below.refl _ _)))).mono ?_
  rintro e w2 ⟨rfl, hb⟩
  have HB := Aside0.mk hb
  clear hb
  go_wp2_with fail
  go_ret
  exact ⟨rfl, by first | exact HB.out | exact (below_alloc (Below.refl _ _) _).trans (HB.out.mono (by simp))⟩
theorem formatUint16p (u : Nat) (hu : u < 65536) (w : World) (hW : WOK w) : Calls Tryz.prog 98 #[.int .u64 (u : Int), .int .i64 16] w fun e w' => e = .returned (.string ⟨(hexL 4 u).toArray⟩) ∧ Below w.heap.size w w' := by
  go_enter Tryz.func98, Tryz.ntmps98
  go_wp2_with fail
  refine (formatUint16 u hu _ (hW.below (by repeat (first | (with_reducible apply below_alloc) | (with_reducible apply pw_below_drewN) | (with_reducible apply below_drew1) | exact Below.refl _ _)))).mono ?_
  rintro e w2 ⟨rfl, hb⟩
  have HB := Aside0.mk hb
  clear hb
  go_wp2_with fail
  go_ret
  exact ⟨rfl, by first | exact HB.out | exact (below_alloc (Below.refl _ _) _).trans (HB.out.mono (by simp))⟩
def strconv_FormatUint.f (i : Int) (base : Int) : Option ByteArray := if base = 16 then if 0 ≤ i ∧ i < 65536 then some ⟨(hexL 4 i.toNat).toArray⟩ else none else none
theorem strconv_FormatUint.calls (i base : Int) (r : ByteArray) (w : World) (h : strconv_FormatUint.f i base = some r) (hW : WOK w) :
    Calls Tryz.prog 98 #[.int .u64 i, .int .i64 base] w fun e w' => e = .returned (.string r) ∧ Below w.heap.size w w' := by
  unfold strconv_FormatUint.f at h
  split at h
  case isFalse => cases h
  rename_i hb
  subst hb
  split at h
  case isFalse => cases h
  rename_i hi
  injection h with h
  subst h
  have := formatUint16p i.toNat (by omega) w hW
  rw [show ((i.toNat : Nat) : Int) = i from by omega] at this
  exact this
theorem blk_apart {α : Type} {d : Kd α} {W w1 : World} {g base : Nat} {cs : Array Value} {t e : TypeId} {ok : Nat → Prop} {v : Value} {xs : List α} (hX : W.heap[g]? = some (.cells cs t (0, 0))) (ht : t ≠ e) (hR : d.R e W base ok v xs) (hg : W.grownBy w1 v.ownBlock) : w1.heap[g]? = some (.cells cs t (0, 0)) :=
  blk_grown hX hg (fun h => by
    obtain ⟨c, hc⟩ := Kd.R_typed hR g h.symm
    rw [hX] at hc
    injection hc with hc
    injection hc with _ hc
    exact ht hc)
def decB (n : Int) : ByteArray := ⟨(Lib.itoa n).toArray⟩
theorem itoa_b {x : Int} (h : 0 ≤ Go.bits .and .u64 x 255 ∧ Go.bits .and .u64 x 255 < 256) : strconv_Itoa.f (wrap64 (Go.bits .and .u64 x 255)) = some (decB (Go.bits .and .u64 x 255)) := by
  have e : wrap64 (Go.bits .and .u64 x 255) = Go.bits .and .u64 x 255 := by unfold wrap64; omega
  unfold strconv_Itoa.f decB
  rw [e, if_pos (by omega)]
theorem and255 (x : Int) : 0 ≤ Go.bits .and .u64 x 255 ∧ Go.bits .and .u64 x 255 < 256 := by
  unfold Go.bits
  have h1 : ((BitVec.ofInt 64 x) &&& (BitVec.ofInt 64 255)).toNat < 256 := by
    rw [BitVec.toNat_and, show (BitVec.ofInt 64 255).toNat = 2 ^ 8 - 1 from by decide, Nat.and_two_pow_sub_one_eq_mod]
    exact Nat.mod_lt _ (by decide)
  show 0 ≤ IntKind.u64.wrap _ ∧ IntKind.u64.wrap _ < 256
  rw [IntWalk.u64_in _ ⟨by show (0 : Int) ≤ (((BitVec.ofInt 64 x) &&& (BitVec.ofInt 64 255)).toNat : Int); omega, by show (((BitVec.ofInt 64 x) &&& (BitVec.ofInt 64 255)).toNat : Int) ≤ _; omega⟩]
  exact ⟨by show (0 : Int) ≤ (((BitVec.ofInt 64 x) &&& (BitVec.ofInt 64 255)).toNat : Int); omega, by show (((BitVec.ofInt 64 x) &&& (BitVec.ofInt 64 255)).toNat : Int) < 256; omega⟩
theorem format4 (hi lo : Int) (r : ByteArray) (w : World) (hr : strings_Join.f [decB (Go.bits .and .u64 (lo / 16777216) 255), decB (Go.bits .and .u64 (lo / 65536) 255), decB (Go.bits .and .u64 (lo / 256) 255), decB (Go.bits .and .u64 (lo) 255)] (⟨#[46]⟩ : ByteArray) = some r) (hW : WOK w) : Calls Tryz.prog 62 #[.agg #[.bool false, .int .u64 hi, .int .u64 lo]] w fun e w' => e = .returned (.string r) ∧ Below w.heap.size w w' := by
  have HW := Aside0.mk hW
  have HJ := Aside0.mk hr
  clear hW hr
  have HX : Aside0 ((w.alloc (.cells #[.bool false, .int .u64 hi, .int .u64 lo] 31)).heap[w.heap.size]? = some (.cells #[.bool false, .int .u64 hi, .int .u64 lo] 31 (0, 0))) := ⟨heap_alloc_new _ _⟩
  have HB : Aside0 (Below w.heap.size w (w.alloc (.cells #[.bool false, .int .u64 hi, .int .u64 lo] 31))) := ⟨below_alloc (Below.refl _ _) _⟩
  have HO : Aside0 (Kd.R Kd.string 9 (w.alloc (.cells #[.bool false, .int .u64 hi, .int .u64 lo] 31)) w.heap.size (fun _ => True) (.slice none 0 0) ([] : List ByteArray)) := ⟨Kd.R_nil _ _ _ _ _⟩
  go_enter Tryz.func62, Tryz.ntmps62
  go_upto_region 3 with (fail)
  obtain ⟨g, hg⟩ : ∃ g, w.heap.size = g := ⟨_, rfl⟩
  rw [hg] at HX
  simp only [hg]
  clear hg
  generalize w.alloc (.cells #[.bool false, .int .u64 hi, .int .u64 lo] 31) = W at HX HB HO ⊢
  go_upto_region 4 with (fail)
  refine wp_loop_rounds 5 ?_
  have hc : W.cell? ⟨g, 2, none⟩ = some (.int .u64 lo) := (blk_cell HX.out 2).trans rfl
  rw [rounds_succ]
  go_wp2_with fail
  clear hc
  refine (strconv_Itoa.calls _ _ _ (itoa_b (and255 _)) (HW.out.below HB.out)).mono ?_
  rintro e w2 ⟨rfl, hb⟩
  replace HX := Aside0.mk (blk_below HX.out hb)
  replace HO := Aside0.mk (Kd.R_below HO.out hb)
  replace HB := Aside0.mk (below_step HB.out hb)
  clear hb
  go_wp2_with (first | ((with_reducible refine gate_builtin (b := .append) (xs := #[.tmp 17, .tmp 27]) rfl ?_); at_builtin; refine Kd.R_append Kd.string (w0 := w) w.heap.size rfl (.tmp 17) (.tmp 27) 70 9 (.string ⟨#[]⟩) 16 rfl Tryz.underlying70 info9 rfl (by decide) (by omega) _ ([] : List ByteArray) (decB (Go.bits .and .u64 (lo / 16777216) 255)) [.string (decB (Go.bits .and .u64 (lo / 16777216) 255))] (fun _ => True) (fun _ => False) rfl rfl ?aP (fun _ hk => hk.elim) ?aF ?aO ?aB ?aS ?aL ?_; (case aP => exact rfl); (case aB => exact HB.out); (case aF => exact (fun _ _ => trivial)); (case aO => exact HO.out); (case aS => exact (below_size HB.out)); (case aL => simp); intro v0 W0 ho hb hg hat; replace HX := Aside0.mk (blk_apart HX.out (by decide) HO.out hg); replace HB := Aside0.mk hb; replace HO := Aside0.mk ho; clear ho hb hg hat))
  have hc : W0.cell? ⟨g, 2, none⟩ = some (.int .u64 lo) := (blk_cell HX.out 2).trans rfl
  rw [rounds_succ]
  go_wp2_with fail
  clear hc
  refine (strconv_Itoa.calls _ _ _ (itoa_b (and255 _)) (HW.out.below HB.out)).mono ?_
  rintro e w2 ⟨rfl, hb⟩
  replace HX := Aside0.mk (blk_below HX.out hb)
  replace HO := Aside0.mk (Kd.R_below HO.out hb)
  replace HB := Aside0.mk (below_step HB.out hb)
  clear hb
  go_wp2_with (first | ((with_reducible refine gate_builtin (b := .append) (xs := #[.tmp 17, .tmp 27]) rfl ?_); at_builtin; refine Kd.R_append Kd.string (w0 := w) w.heap.size rfl (.tmp 17) (.tmp 27) 70 9 (.string ⟨#[]⟩) 16 rfl Tryz.underlying70 info9 rfl (by decide) (by omega) _ [decB (Go.bits .and .u64 (lo / 16777216) 255)] (decB (Go.bits .and .u64 (lo / 65536) 255)) [.string (decB (Go.bits .and .u64 (lo / 65536) 255))] (fun _ => True) (fun _ => False) rfl rfl ?aP (fun _ hk => hk.elim) ?aF ?aO ?aB ?aS ?aL ?_; (case aP => exact rfl); (case aB => exact HB.out); (case aF => exact (fun _ _ => trivial)); (case aO => exact HO.out); (case aS => exact (below_size HB.out)); (case aL => simp); intro v1 W1 ho hb hg hat; replace HX := Aside0.mk (blk_apart HX.out (by decide) HO.out hg); replace HB := Aside0.mk hb; replace HO := Aside0.mk ho; clear ho hb hg hat))
  have hc : W1.cell? ⟨g, 2, none⟩ = some (.int .u64 lo) := (blk_cell HX.out 2).trans rfl
  rw [rounds_succ]
  go_wp2_with fail
  clear hc
  refine (strconv_Itoa.calls _ _ _ (itoa_b (and255 _)) (HW.out.below HB.out)).mono ?_
  rintro e w2 ⟨rfl, hb⟩
  replace HX := Aside0.mk (blk_below HX.out hb)
  replace HO := Aside0.mk (Kd.R_below HO.out hb)
  replace HB := Aside0.mk (below_step HB.out hb)
  clear hb
  go_wp2_with (first | ((with_reducible refine gate_builtin (b := .append) (xs := #[.tmp 17, .tmp 27]) rfl ?_); at_builtin; refine Kd.R_append Kd.string (w0 := w) w.heap.size rfl (.tmp 17) (.tmp 27) 70 9 (.string ⟨#[]⟩) 16 rfl Tryz.underlying70 info9 rfl (by decide) (by omega) _ [decB (Go.bits .and .u64 (lo / 16777216) 255), decB (Go.bits .and .u64 (lo / 65536) 255)] (decB (Go.bits .and .u64 (lo / 256) 255)) [.string (decB (Go.bits .and .u64 (lo / 256) 255))] (fun _ => True) (fun _ => False) rfl rfl ?aP (fun _ hk => hk.elim) ?aF ?aO ?aB ?aS ?aL ?_; (case aP => exact rfl); (case aB => exact HB.out); (case aF => exact (fun _ _ => trivial)); (case aO => exact HO.out); (case aS => exact (below_size HB.out)); (case aL => simp); intro v2 W2 ho hb hg hat; replace HX := Aside0.mk (blk_apart HX.out (by decide) HO.out hg); replace HB := Aside0.mk hb; replace HO := Aside0.mk ho; clear ho hb hg hat))
  have hc : W2.cell? ⟨g, 2, none⟩ = some (.int .u64 lo) := (blk_cell HX.out 2).trans rfl
  rw [rounds_succ]
  go_wp2_with fail
  clear hc
  refine (strconv_Itoa.calls _ _ _ (itoa_b (and255 _)) (HW.out.below HB.out)).mono ?_
  rintro e w2 ⟨rfl, hb⟩
  replace HX := Aside0.mk (blk_below HX.out hb)
  replace HO := Aside0.mk (Kd.R_below HO.out hb)
  replace HB := Aside0.mk (below_step HB.out hb)
  clear hb
  go_wp2_with (first | ((with_reducible refine gate_builtin (b := .append) (xs := #[.tmp 17, .tmp 27]) rfl ?_); at_builtin; refine Kd.R_append Kd.string (w0 := w) w.heap.size rfl (.tmp 17) (.tmp 27) 70 9 (.string ⟨#[]⟩) 16 rfl Tryz.underlying70 info9 rfl (by decide) (by omega) _ [decB (Go.bits .and .u64 (lo / 16777216) 255), decB (Go.bits .and .u64 (lo / 65536) 255), decB (Go.bits .and .u64 (lo / 256) 255)] (decB (Go.bits .and .u64 (lo) 255)) [.string (decB (Go.bits .and .u64 (lo) 255))] (fun _ => True) (fun _ => False) rfl rfl ?aP (fun _ hk => hk.elim) ?aF ?aO ?aB ?aS ?aL ?_; (case aP => exact rfl); (case aB => exact HB.out); (case aF => exact (fun _ _ => trivial)); (case aO => exact HO.out); (case aS => exact (below_size HB.out)); (case aL => simp); intro v3 W3 ho hb hg hat; replace HX := Aside0.mk (blk_apart HX.out (by decide) HO.out hg); replace HB := Aside0.mk hb; replace HO := Aside0.mk ho; clear ho hb hg hat))
  rw [rounds_succ]
  obtain ⟨A, c, e⟩ := Kd.R_slice HO.out
  subst e
  go_wp2_with fail
  refine (strings_Join.calls A c _ _ r _ (Kd.R_reads' HO.out).2.2 (Kd.R_reads' HO.out).2.1 HJ.out).mono ?_
  rintro e w2 ⟨rfl, hb⟩
  replace HB := Aside0.mk (below_step HB.out hb)
  clear hb
  go_wp2_with fail
  exact bodyPost_ret (v := .string r) (by simp [results, Tryz.results62, go_sem]) rfl ⟨rfl, HB.out⟩
theorem and65535 (x : Int) : 0 ≤ Go.bits .and .u64 x 65535 ∧ Go.bits .and .u64 x 65535 < 65536 := by
  unfold Go.bits
  have h1 : ((BitVec.ofInt 64 x) &&& (BitVec.ofInt 64 65535)).toNat < 65536 := by
    rw [BitVec.toNat_and, show (BitVec.ofInt 64 65535).toNat = 2 ^ 16 - 1 from by decide, Nat.and_two_pow_sub_one_eq_mod]
    exact Nat.mod_lt _ (by decide)
  show 0 ≤ IntKind.u64.wrap _ ∧ IntKind.u64.wrap _ < 65536
  rw [IntWalk.u64_in _ ⟨by show (0 : Int) ≤ (((BitVec.ofInt 64 x) &&& (BitVec.ofInt 64 65535)).toNat : Int); omega, by show (((BitVec.ofInt 64 x) &&& (BitVec.ofInt 64 65535)).toNat : Int) ≤ _; omega⟩]
  exact ⟨by show (0 : Int) ≤ (((BitVec.ofInt 64 x) &&& (BitVec.ofInt 64 65535)).toNat : Int); omega, by show (((BitVec.ofInt 64 x) &&& (BitVec.ofInt 64 65535)).toNat : Int) < 65536; omega⟩
def grpL (hi lo : Int) : List Int := [Go.bits .and .u64 (hi / 281474976710656) 65535, Go.bits .and .u64 (hi / 4294967296) 65535, Go.bits .and .u64 (hi / 65536) 65535, Go.bits .and .u64 (hi) 65535, Go.bits .and .u64 (lo / 281474976710656) 65535, Go.bits .and .u64 (lo / 4294967296) 65535, Go.bits .and .u64 (lo / 65536) 65535, Go.bits .and .u64 (lo) 65535]
def fmtT (l : List Int) (p q : Nat) : Nat → Nat → ByteArray → ByteArray
  | 0, _, o => o
  | d + 1, i, o => if i < 8 then (if i = p ∧ 1 < q - p then fmtT l p q d q (o ++ ⟨#[58, 58]⟩) else fmtT l p q d (i + 1) ((if o.toList ≠ [] ∧ Lib.hasSuffix o.data.toList [58] = false then o ++ ⟨#[58]⟩ else o) ++ ⟨(hexL 4 (l.getD i 0).toNat).toArray⟩)) else o
theorem runF_le (l : List Int) : ∀ (d i a b : Nat), a ≤ b → b ≤ 8 → i + d ≤ 8 → (runF l d i (a, b)).1 ≤ (runF l d i (a, b)).2 ∧ (runF l d i (a, b)).2 ≤ 8
  | 0, i, a, b, h1, h2, _ => ⟨h1, h2⟩
  | d + 1, i, a, b, h1, h2, h3 => by
    unfold runF
    split
    · have := zEnd_le l (8 - i) i
      exact runF_le l d (i + 1) _ _ this.1 (by omega) (by omega)
    · exact runF_le l d (i + 1) _ _ h1 h2 (by omega)
theorem runF_ok (l : List Int) : (runF l 8 0 (0, 0)).1 ≤ (runF l 8 0 (0, 0)).2 ∧ (runF l 8 0 (0, 0)).2 ≤ 8 := runF_le l 8 0 0 0 (by omega) (by omega) (by omega)
structure TxtI (l : List Int) (p q gg i : Nat) (o r : ByteArray) : Prop where
  m : 8 - i ≤ gg
  i8 : i ≤ 8
  res : fmtT l p q gg i o = r
  sz : o.size + 8 * gg ≤ 64
theorem TxtI.pos {l : List Int} {p q gg i : Nat} {o r : ByteArray} (h : TxtI l p q gg i o r) (hi : i < 8) : ∃ m, gg = m + 1 := ⟨gg - 1, by have := h.m; omega⟩
theorem TxtI.fin {l : List Int} {p q gg i : Nat} {o r : ByteArray} (h : TxtI l p q gg i o r) (hi : ¬ i < 8) : o = r := by
  have := h.res
  cases gg with
  | zero => exact this
  | succ d => rw [fmtT, if_neg hi] at this; exact this
theorem TxtI.gap {l : List Int} {p q d i : Nat} {o r : ByteArray} (h : TxtI l p q (d + 1) i o r) (hi : i < 8) (hp : i = p) (hq : 1 < q - p) (hq8 : q ≤ 8) : TxtI l p q d q (o ++ ⟨#[58, 58]⟩) r := by
  obtain ⟨h1, h2, h3, h4⟩ := h
  refine ⟨by omega, hq8, ?_, ?_⟩
  · rw [fmtT, if_pos hi, if_pos ⟨hp, hq⟩] at h3; exact h3
  · rw [ByteArray.size_append, show (⟨#[58, 58]⟩ : ByteArray).size = 2 from rfl]; omega
theorem hexL_len : ∀ (k n : Nat), (hexL k n).length ≤ k
  | 0, _ => Nat.le_refl _
  | k + 1, n => by
    unfold hexL
    split
    · simp
    · have := hexL_len k (n / 16); simp; omega
theorem hexL_size (k n : Nat) : (⟨(hexL k n).toArray⟩ : ByteArray).size ≤ k := by
  show (hexL k n).toArray.size ≤ k
  rw [List.size_toArray]
  exact hexL_len k n
theorem TxtI.hexA {l : List Int} {p q d i : Nat} {o r : ByteArray} {x : Int} (hx : l.getD i 0 = x) (h : TxtI l p q (d + 1) i o r) (hi : i < 8) (hp : ¬ (i = p ∧ 1 < q - p)) (hs : ¬ (o.toList ≠ [] ∧ Lib.hasSuffix o.data.toList [58] = false)) : TxtI l p q d (i + 1) (o ++ ⟨(hexL 4 x.toNat).toArray⟩) r := by
  subst hx
  obtain ⟨h1, h2, h3, h4⟩ := h
  refine ⟨by omega, by omega, ?_, ?_⟩
  · rw [fmtT, if_pos hi, if_neg hp, if_neg hs] at h3; exact h3
  · have := hexL_size 4 (l.getD i 0).toNat
    rw [ByteArray.size_append]; omega
theorem TxtI.hexB {l : List Int} {p q d i : Nat} {o r : ByteArray} {x : Int} (hx : l.getD i 0 = x) (h : TxtI l p q (d + 1) i o r) (hi : i < 8) (hp : ¬ (i = p ∧ 1 < q - p)) (hs : o.toList ≠ [] ∧ Lib.hasSuffix o.data.toList [58] = false) : TxtI l p q d (i + 1) (o ++ ⟨#[58]⟩ ++ ⟨(hexL 4 x.toNat).toArray⟩) r := by
  subst hx
  obtain ⟨h1, h2, h3, h4⟩ := h
  refine ⟨by omega, by omega, ?_, ?_⟩
  · rw [fmtT, if_pos hi, if_neg hp, if_pos hs] at h3; exact h3
  · have := hexL_size 4 (l.getD i 0).toNat
    rw [ByteArray.size_append, ByteArray.size_append, show (⟨#[58]⟩ : ByteArray).size = 1 from rfl]; omega
theorem hex_u {x : Int} (h : 0 ≤ x ∧ x < 65536) : strconv_FormatUint.f x 16 = some ⟨(hexL 4 x.toNat).toArray⟩ := by unfold strconv_FormatUint.f; rw [if_pos rfl, if_pos h]
theorem suf_u {o : ByteArray} (h : o.size ≤ 64) : strings_HasSuffix.f o ⟨#[58]⟩ = some (Lib.hasSuffix o.data.toList [58]) := by unfold strings_HasSuffix.f; rw [if_pos (by omega)]
theorem i_eq {i p : Nat} (h : i = p) : ((i : Int) == (p : Int)) = true := by simp [h]
theorem i_ne {i p : Nat} (h : ¬ i = p) : ((i : Int) == (p : Int)) = false := beq_eq_false_iff_ne.mpr (fun e => h (by omega))
theorem i_eqd {i p : Nat} (h : i = p) : decide ((i : Int) = (p : Int)) = true := by simp [h]
theorem i_ned {i p : Nat} (h : ¬ i = p) : decide ((i : Int) = (p : Int)) = false := decide_eq_false (fun e => h (by omega))
theorem q_gt {p q : Nat} (h : 1 < q - p) (h8 : q ≤ 8) : decide (wrap64 ((q : Int) - (p : Int)) > 1) = true := decide_eq_true (by unfold wrap64; omega)
theorem q_ngt {p q : Nat} (h : ¬ 1 < q - p) (h8 : p ≤ q ∧ q ≤ 8) : decide (wrap64 ((q : Int) - (p : Int)) > 1) = false := decide_eq_false (by unfold wrap64; omega)
theorem sz_2 {l : List Int} {p q d i : Nat} {o r : ByteArray} (h : TxtI l p q d i o r) : (9223372036854775807 < o.size + 2) = False := eq_false (by have := h.sz; omega)
theorem sz_1 {l : List Int} {p q d i : Nat} {o r : ByteArray} (h : TxtI l p q d i o r) : (9223372036854775807 < o.size + 1) = False := eq_false (by have := h.sz; omega)
theorem sz_h {l : List Int} {p q d i : Nat} {o t r : ByteArray} (h : TxtI l p q d i (o ++ t) r) : (9223372036854775807 < o.size + t.size) = False := eq_false (by have := h.sz; rw [ByteArray.size_append] at this; omega)
theorem q_next {p q : Nat} (h : 1 < q - p) (h8 : q ≤ 8) : wrap64 (wrap64 ((q : Int) - 1) + 1) = (q : Int) := by unfold wrap64; omega
theorem run_g (hi lo : Int) (w : World) : Calls Tryz.prog 96 #[.agg #[.int .u64 (Go.bits .and .u64 (hi / 281474976710656) 65535), .int .u64 (Go.bits .and .u64 (hi / 4294967296) 65535), .int .u64 (Go.bits .and .u64 (hi / 65536) 65535), .int .u64 (Go.bits .and .u64 (hi) 65535), .int .u64 (Go.bits .and .u64 (lo / 281474976710656) 65535), .int .u64 (Go.bits .and .u64 (lo / 4294967296) 65535), .int .u64 (Go.bits .and .u64 (lo / 65536) 65535), .int .u64 (Go.bits .and .u64 (lo) 65535)]] w fun e w' => e = .returned (.tuple #[.int .i64 ((runF (grpL hi lo) 8 0 (0, 0)).1 : Nat), .int .i64 ((runF (grpL hi lo) 8 0 (0, 0)).2 : Nat)]) ∧ Below w.heap.size w w' := address_run.calls _ _ _ _ _ _ _ _ w
def fmt6 (hi lo : Int) : ByteArray := fmtT (grpL hi lo) (runF (grpL hi lo) 8 0 (0, 0)).1 (runF (grpL hi lo) 8 0 (0, 0)).2 8 0 ⟨#[]⟩
def fmt.T13 : Bool × List (List Nat × List Nat) := (true, [([], []), ([], []), ([1], [1]), ([], []), ([3], [3]), ([], []), ([5], [5]), ([6], [6]), ([4, 7], [4, 7]), ([8], [8]), ([], []), ([10], [10]), ([], []), ([12], [12]), ([13], [13]), ([11, 14], [11, 14]), ([15], [15]), ([0, 0, 3, 4, 5, 6, 7, 8, 9], [0]), ([17, 9, 0, 3, 4, 5, 6, 7, 8, 9], [9, 17]), ([2, 0, 1, 2, 3, 4, 5, 6, 7, 8, 9, 10, 11, 12, 13, 14, 15, 16, 17, 18], [2]), ([19, 16, 18, 0, 1, 2, 3, 4, 5, 6, 7, 8, 9, 10, 11, 12, 13, 14, 15, 16, 17, 18], [16, 19])])
def fmt.B13 : List Nat := [0, 0, 2, 0, 8, 0, 32, 96, 248, 504, 0, 1024, 0, 4096, 12288, 31744, 64512, 1017, 132089, 524287, 1048575]
theorem fmt.tab13 : rtab .any (opsOf Tryz.f62 13) = fmt.T13 := by kernel_rfl
theorem fmt.bits13 : waitsOk fmt.T13.2 fmt.B13 = true := by kernel_rfl
theorem format6 (hi lo : Int) (w : World) (hW : WOK w) : Calls Tryz.prog 62 #[.agg #[.bool true, .int .u64 hi, .int .u64 lo]] w fun e w' => e = .returned (.string (fmt6 hi lo)) ∧ Below w.heap.size w w' := by
  have HW := Aside0.mk hW
  clear hW
  obtain ⟨r, hr⟩ : ∃ r, fmt6 hi lo = r := ⟨_, rfl⟩
  have HR := Aside0.mk hr
  rw [hr]
  clear hr
  have HX : Aside0 ((w.alloc (.cells #[.bool true, .int .u64 hi, .int .u64 lo] 31)).heap[w.heap.size]? = some (.cells #[.bool true, .int .u64 hi, .int .u64 lo] 31 (0, 0))) := ⟨heap_alloc_new _ _⟩
  have HB : Aside0 (Below w.heap.size w (w.alloc (.cells #[.bool true, .int .u64 hi, .int .u64 lo] 31))) := ⟨below_alloc (Below.refl _ _) _⟩
  go_enter Tryz.func62, Tryz.ntmps62
  go_upto_region 9 with (fail)
  obtain ⟨g, hg⟩ : ∃ g, w.heap.size = g := ⟨_, rfl⟩
  rw [hg] at HX
  simp only [hg]
  clear hg
  generalize w.alloc (.cells #[.bool true, .int .u64 hi, .int .u64 lo] 31) = W at HX HB ⊢
  have HY : Aside0 ((W.alloc (.cells #[.int .u64 0, .int .u64 0, .int .u64 0, .int .u64 0, .int .u64 0, .int .u64 0, .int .u64 0, .int .u64 0] 126)).heap[W.heap.size]? = some (.cells #[.int .u64 0, .int .u64 0, .int .u64 0, .int .u64 0, .int .u64 0, .int .u64 0, .int .u64 0, .int .u64 0] 126 (0, 0))) := ⟨heap_alloc_new _ _⟩
  have HL := Aside0.mk (blk_lt HX.out)
  replace HX := Aside0.mk (blk_alloc HX.out (.cells #[.int .u64 0, .int .u64 0, .int .u64 0, .int .u64 0, .int .u64 0, .int .u64 0, .int .u64 0, .int .u64 0] 126))
  have HG := Aside0.mk HB.out.size
  replace HB := Aside0.mk (below_alloc HB.out (.cells #[.int .u64 0, .int .u64 0, .int .u64 0, .int .u64 0, .int .u64 0, .int .u64 0, .int .u64 0, .int .u64 0] 126))
  go_upto_region 11 with (fail)
  obtain ⟨ga, hga⟩ : ∃ ga, W.heap.size = ga := ⟨_, rfl⟩
  rw [hga] at HY HG HL
  simp only [hga]
  clear hga
  have HN := Aside0.mk (Nat.ne_of_lt HL.out)
  clear HL
  generalize W.alloc (.cells #[.int .u64 0, .int .u64 0, .int .u64 0, .int .u64 0, .int .u64 0, .int .u64 0, .int .u64 0, .int .u64 0] 126) = W0 at HX HY HB ⊢
  refine wp_loop_rounds 5 ?_
  rw [rounds_succ]
  go_upto_region 13 with (fail)
  refine start_ (n := 21) (S := fun w' => w'.cell? ⟨g, 1, none⟩ = some (.int .u64 hi) ∧ w'.cell? ⟨g, 2, none⟩ = some (.int .u64 lo)) (ds := [20]) #[false, false, false, false, false, false, false, false, false, false, false, false, false, false, false, false, false, false, false, false, false] (by kernel_rfl) rfl rfl ⟨(blk_cell (blk_drew HX.out) 1).trans rfl, (blk_cell (blk_drew HX.out) 2).trans rfl⟩ (fun hHeld => ?_)
  refine with_tabW fmt.tab13 fmt.bits13 (fun HT_ HW_ => ?_)
  replace HX := Aside0.mk (blk_drew HX.out)
  replace HY := Aside0.mk (blk_drew HY.out)
  replace HB := Aside0.mk (below_drew1 HB.out)
  generalize W0.drew = V0 at HX HY HB hHeld ⊢
  refine zp 0 35 HT_ ?_; refine zp 1 36 HT_ ?_; refine zp (v := .int .i64 4) 2 37 HT_ ?_ (hy := fun _ => rfl); refine zp 3 38 HT_ ?_; refine zt 4 39 HT_ HW_ hHeld ?_; refine zp 5 40 HT_ ?_; refine zp (v := .int .i64 0) 6 41 HT_ ?_ (hy := fun _ => rfl); refine zp (v := .int .i64 48) 7 42 HT_ ?_ (hy := fun _ => rfl); refine zp 8 43 HT_ ?_; refine zp 9 44 HT_ ?_; refine zp 10 45 HT_ ?_; refine zt 11 46 HT_ HW_ hHeld ?_; refine zp 12 47 HT_ ?_; refine zp (v := .int .i64 0) 13 48 HT_ ?_ (hy := fun _ => rfl); refine zp (v := .int .i64 48) 14 49 HT_ ?_ (hy := fun _ => rfl); refine zp 15 50 HT_ ?_; refine zp 16 51 HT_ ?_; refine zp 17 52 HT_ ?_
  have hc : V0.cell? ⟨ga, 0, none⟩ = some (.int .u64 0) := (blk_cell HY.out 0).trans rfl
  have hf : V0.frozen? ⟨ga, 0, none⟩ = false := blk_frozen HY.out 0
  refine one_ (i := 18) (N := none) #[true, true, true, true, true, true, true, true, true, true, true, true, true, true, true, true, true, true, true, false, false] rfl rfl (one_of HT_.out (by kernel_rfl)) (by decide) (fun K hK => ?_)
  refine skip_ (w1 := V0.setCell ⟨ga, 0, none⟩ (.int .u64 (Go.bits .and .u64 (hi / 281474976710656) 65535))) (by rfl) rfl (by go_simp) ?_
  clear hc hf
  replace HX := Aside0.mk (blk_far HX.out (p := ⟨ga, 0, none⟩) HN.out (.int .u64 (Go.bits .and .u64 (hi / 281474976710656) 65535)))
  replace HY : Aside0 ((V0.setCell ⟨ga, 0, none⟩ (.int .u64 (Go.bits .and .u64 (hi / 281474976710656) 65535))).heap[ga]? = some (.cells #[.int .u64 (Go.bits .and .u64 (hi / 281474976710656) 65535), .int .u64 0, .int .u64 0, .int .u64 0, .int .u64 0, .int .u64 0, .int .u64 0, .int .u64 0] 126 (0, 0))) := ⟨blk_put (cs := #[.int .u64 0, .int .u64 0, .int .u64 0, .int .u64 0, .int .u64 0, .int .u64 0, .int .u64 0, .int .u64 0]) HY.out 0 _ rfl⟩
  replace HB := Aside0.mk (HB.out.setCell (p := ⟨ga, 0, none⟩) HG.out (.int .u64 (Go.bits .and .u64 (hi / 281474976710656) 65535)))
  generalize V0.setCell ⟨ga, 0, none⟩ (.int .u64 (Go.bits .and .u64 (hi / 281474976710656) 65535)) = U0 at HX HY HB ⊢
  refine hK.out _ _ ⟨(blk_cell HX.out 1).trans rfl, (blk_cell HX.out 2).trans rfl⟩ (fun _ => ?_)
  clear hK K
  refine zp 19 53 HT_ ?_
  have hc : U0.cell? ⟨ga, 4, none⟩ = some (.int .u64 0) := (blk_cell HY.out 4).trans rfl
  have hf : U0.frozen? ⟨ga, 4, none⟩ = false := blk_frozen HY.out 4
  refine last_ (i := 20) (N := none) #[true, true, true, true, true, true, true, true, true, true, true, true, true, true, true, true, true, true, true, true, true] rfl rfl (one_of HT_.out (by kernel_rfl)) (by decide) (fun K hK => ?_)
  refine skip_ (w1 := U0.setCell ⟨ga, 4, none⟩ (.int .u64 (Go.bits .and .u64 (lo / 281474976710656) 65535))) (by rfl) rfl (by go_simp) ?_
  clear hc hf
  replace HX := Aside0.mk (blk_far HX.out (p := ⟨ga, 4, none⟩) HN.out (.int .u64 (Go.bits .and .u64 (lo / 281474976710656) 65535)))
  replace HY : Aside0 ((U0.setCell ⟨ga, 4, none⟩ (.int .u64 (Go.bits .and .u64 (lo / 281474976710656) 65535))).heap[ga]? = some (.cells #[.int .u64 (Go.bits .and .u64 (hi / 281474976710656) 65535), .int .u64 0, .int .u64 0, .int .u64 0, .int .u64 (Go.bits .and .u64 (lo / 281474976710656) 65535), .int .u64 0, .int .u64 0, .int .u64 0] 126 (0, 0))) := ⟨blk_put (cs := #[.int .u64 (Go.bits .and .u64 (hi / 281474976710656) 65535), .int .u64 0, .int .u64 0, .int .u64 0, .int .u64 0, .int .u64 0, .int .u64 0, .int .u64 0]) HY.out 4 _ rfl⟩
  replace HB := Aside0.mk (HB.out.setCell (p := ⟨ga, 4, none⟩) HG.out (.int .u64 (Go.bits .and .u64 (lo / 281474976710656) 65535)))
  generalize U0.setCell ⟨ga, 4, none⟩ (.int .u64 (Go.bits .and .u64 (lo / 281474976710656) 65535)) = W1 at HX HY HB ⊢
  refine hK.out _ _ ?_
  clear hK K
  refine zd HT_ ?_
  clear hHeld HT_ HW_
  go_wp2_with fail
  rw [rounds_succ]
  go_upto_region 13 with (fail)
  refine start_ (n := 21) (S := fun w' => w'.cell? ⟨g, 1, none⟩ = some (.int .u64 hi) ∧ w'.cell? ⟨g, 2, none⟩ = some (.int .u64 lo)) (ds := [20]) #[false, false, false, false, false, false, false, false, false, false, false, false, false, false, false, false, false, false, false, false, false] (by kernel_rfl) rfl rfl ⟨(blk_cell (blk_drew HX.out) 1).trans rfl, (blk_cell (blk_drew HX.out) 2).trans rfl⟩ (fun hHeld => ?_)
  refine with_tabW fmt.tab13 fmt.bits13 (fun HT_ HW_ => ?_)
  replace HX := Aside0.mk (blk_drew HX.out)
  replace HY := Aside0.mk (blk_drew HY.out)
  replace HB := Aside0.mk (below_drew1 HB.out)
  generalize W1.drew = V1 at HX HY HB hHeld ⊢
  refine zp 0 35 HT_ ?_; refine zp 1 36 HT_ ?_; refine zp (v := .int .i64 5) 2 37 HT_ ?_ (hy := fun _ => rfl); refine zp 3 38 HT_ ?_; refine zt 4 39 HT_ HW_ hHeld ?_; refine zp 5 40 HT_ ?_; refine zp (v := .int .i64 16) 6 41 HT_ ?_ (hy := fun _ => rfl); refine zp (v := .int .i64 32) 7 42 HT_ ?_ (hy := fun _ => rfl); refine zp 8 43 HT_ ?_; refine zp 9 44 HT_ ?_; refine zp 10 45 HT_ ?_; refine zt 11 46 HT_ HW_ hHeld ?_; refine zp 12 47 HT_ ?_; refine zp (v := .int .i64 16) 13 48 HT_ ?_ (hy := fun _ => rfl); refine zp (v := .int .i64 32) 14 49 HT_ ?_ (hy := fun _ => rfl); refine zp 15 50 HT_ ?_; refine zp 16 51 HT_ ?_; refine zp 17 52 HT_ ?_
  have hc : V1.cell? ⟨ga, 1, none⟩ = some (.int .u64 0) := (blk_cell HY.out 1).trans rfl
  have hf : V1.frozen? ⟨ga, 1, none⟩ = false := blk_frozen HY.out 1
  refine one_ (i := 18) (N := none) #[true, true, true, true, true, true, true, true, true, true, true, true, true, true, true, true, true, true, true, false, false] rfl rfl (one_of HT_.out (by kernel_rfl)) (by decide) (fun K hK => ?_)
  refine skip_ (w1 := V1.setCell ⟨ga, 1, none⟩ (.int .u64 (Go.bits .and .u64 (hi / 4294967296) 65535))) (by rfl) rfl (by go_simp) ?_
  clear hc hf
  replace HX := Aside0.mk (blk_far HX.out (p := ⟨ga, 1, none⟩) HN.out (.int .u64 (Go.bits .and .u64 (hi / 4294967296) 65535)))
  replace HY : Aside0 ((V1.setCell ⟨ga, 1, none⟩ (.int .u64 (Go.bits .and .u64 (hi / 4294967296) 65535))).heap[ga]? = some (.cells #[.int .u64 (Go.bits .and .u64 (hi / 281474976710656) 65535), .int .u64 (Go.bits .and .u64 (hi / 4294967296) 65535), .int .u64 0, .int .u64 0, .int .u64 (Go.bits .and .u64 (lo / 281474976710656) 65535), .int .u64 0, .int .u64 0, .int .u64 0] 126 (0, 0))) := ⟨blk_put (cs := #[.int .u64 (Go.bits .and .u64 (hi / 281474976710656) 65535), .int .u64 0, .int .u64 0, .int .u64 0, .int .u64 (Go.bits .and .u64 (lo / 281474976710656) 65535), .int .u64 0, .int .u64 0, .int .u64 0]) HY.out 1 _ rfl⟩
  replace HB := Aside0.mk (HB.out.setCell (p := ⟨ga, 1, none⟩) HG.out (.int .u64 (Go.bits .and .u64 (hi / 4294967296) 65535)))
  generalize V1.setCell ⟨ga, 1, none⟩ (.int .u64 (Go.bits .and .u64 (hi / 4294967296) 65535)) = U1 at HX HY HB ⊢
  refine hK.out _ _ ⟨(blk_cell HX.out 1).trans rfl, (blk_cell HX.out 2).trans rfl⟩ (fun _ => ?_)
  clear hK K
  refine zp 19 53 HT_ ?_
  have hc : U1.cell? ⟨ga, 5, none⟩ = some (.int .u64 0) := (blk_cell HY.out 5).trans rfl
  have hf : U1.frozen? ⟨ga, 5, none⟩ = false := blk_frozen HY.out 5
  refine last_ (i := 20) (N := none) #[true, true, true, true, true, true, true, true, true, true, true, true, true, true, true, true, true, true, true, true, true] rfl rfl (one_of HT_.out (by kernel_rfl)) (by decide) (fun K hK => ?_)
  refine skip_ (w1 := U1.setCell ⟨ga, 5, none⟩ (.int .u64 (Go.bits .and .u64 (lo / 4294967296) 65535))) (by rfl) rfl (by go_simp) ?_
  clear hc hf
  replace HX := Aside0.mk (blk_far HX.out (p := ⟨ga, 5, none⟩) HN.out (.int .u64 (Go.bits .and .u64 (lo / 4294967296) 65535)))
  replace HY : Aside0 ((U1.setCell ⟨ga, 5, none⟩ (.int .u64 (Go.bits .and .u64 (lo / 4294967296) 65535))).heap[ga]? = some (.cells #[.int .u64 (Go.bits .and .u64 (hi / 281474976710656) 65535), .int .u64 (Go.bits .and .u64 (hi / 4294967296) 65535), .int .u64 0, .int .u64 0, .int .u64 (Go.bits .and .u64 (lo / 281474976710656) 65535), .int .u64 (Go.bits .and .u64 (lo / 4294967296) 65535), .int .u64 0, .int .u64 0] 126 (0, 0))) := ⟨blk_put (cs := #[.int .u64 (Go.bits .and .u64 (hi / 281474976710656) 65535), .int .u64 (Go.bits .and .u64 (hi / 4294967296) 65535), .int .u64 0, .int .u64 0, .int .u64 (Go.bits .and .u64 (lo / 281474976710656) 65535), .int .u64 0, .int .u64 0, .int .u64 0]) HY.out 5 _ rfl⟩
  replace HB := Aside0.mk (HB.out.setCell (p := ⟨ga, 5, none⟩) HG.out (.int .u64 (Go.bits .and .u64 (lo / 4294967296) 65535)))
  generalize U1.setCell ⟨ga, 5, none⟩ (.int .u64 (Go.bits .and .u64 (lo / 4294967296) 65535)) = W2 at HX HY HB ⊢
  refine hK.out _ _ ?_
  clear hK K
  refine zd HT_ ?_
  clear hHeld HT_ HW_
  go_wp2_with fail
  rw [rounds_succ]
  go_upto_region 13 with (fail)
  refine start_ (n := 21) (S := fun w' => w'.cell? ⟨g, 1, none⟩ = some (.int .u64 hi) ∧ w'.cell? ⟨g, 2, none⟩ = some (.int .u64 lo)) (ds := [20]) #[false, false, false, false, false, false, false, false, false, false, false, false, false, false, false, false, false, false, false, false, false] (by kernel_rfl) rfl rfl ⟨(blk_cell (blk_drew HX.out) 1).trans rfl, (blk_cell (blk_drew HX.out) 2).trans rfl⟩ (fun hHeld => ?_)
  refine with_tabW fmt.tab13 fmt.bits13 (fun HT_ HW_ => ?_)
  replace HX := Aside0.mk (blk_drew HX.out)
  replace HY := Aside0.mk (blk_drew HY.out)
  replace HB := Aside0.mk (below_drew1 HB.out)
  generalize W2.drew = V2 at HX HY HB hHeld ⊢
  refine zp 0 35 HT_ ?_; refine zp 1 36 HT_ ?_; refine zp (v := .int .i64 6) 2 37 HT_ ?_ (hy := fun _ => rfl); refine zp 3 38 HT_ ?_; refine zt 4 39 HT_ HW_ hHeld ?_; refine zp 5 40 HT_ ?_; refine zp (v := .int .i64 32) 6 41 HT_ ?_ (hy := fun _ => rfl); refine zp (v := .int .i64 16) 7 42 HT_ ?_ (hy := fun _ => rfl); refine zp 8 43 HT_ ?_; refine zp 9 44 HT_ ?_; refine zp 10 45 HT_ ?_; refine zt 11 46 HT_ HW_ hHeld ?_; refine zp 12 47 HT_ ?_; refine zp (v := .int .i64 32) 13 48 HT_ ?_ (hy := fun _ => rfl); refine zp (v := .int .i64 16) 14 49 HT_ ?_ (hy := fun _ => rfl); refine zp 15 50 HT_ ?_; refine zp 16 51 HT_ ?_; refine zp 17 52 HT_ ?_
  have hc : V2.cell? ⟨ga, 2, none⟩ = some (.int .u64 0) := (blk_cell HY.out 2).trans rfl
  have hf : V2.frozen? ⟨ga, 2, none⟩ = false := blk_frozen HY.out 2
  refine one_ (i := 18) (N := none) #[true, true, true, true, true, true, true, true, true, true, true, true, true, true, true, true, true, true, true, false, false] rfl rfl (one_of HT_.out (by kernel_rfl)) (by decide) (fun K hK => ?_)
  refine skip_ (w1 := V2.setCell ⟨ga, 2, none⟩ (.int .u64 (Go.bits .and .u64 (hi / 65536) 65535))) (by rfl) rfl (by go_simp) ?_
  clear hc hf
  replace HX := Aside0.mk (blk_far HX.out (p := ⟨ga, 2, none⟩) HN.out (.int .u64 (Go.bits .and .u64 (hi / 65536) 65535)))
  replace HY : Aside0 ((V2.setCell ⟨ga, 2, none⟩ (.int .u64 (Go.bits .and .u64 (hi / 65536) 65535))).heap[ga]? = some (.cells #[.int .u64 (Go.bits .and .u64 (hi / 281474976710656) 65535), .int .u64 (Go.bits .and .u64 (hi / 4294967296) 65535), .int .u64 (Go.bits .and .u64 (hi / 65536) 65535), .int .u64 0, .int .u64 (Go.bits .and .u64 (lo / 281474976710656) 65535), .int .u64 (Go.bits .and .u64 (lo / 4294967296) 65535), .int .u64 0, .int .u64 0] 126 (0, 0))) := ⟨blk_put (cs := #[.int .u64 (Go.bits .and .u64 (hi / 281474976710656) 65535), .int .u64 (Go.bits .and .u64 (hi / 4294967296) 65535), .int .u64 0, .int .u64 0, .int .u64 (Go.bits .and .u64 (lo / 281474976710656) 65535), .int .u64 (Go.bits .and .u64 (lo / 4294967296) 65535), .int .u64 0, .int .u64 0]) HY.out 2 _ rfl⟩
  replace HB := Aside0.mk (HB.out.setCell (p := ⟨ga, 2, none⟩) HG.out (.int .u64 (Go.bits .and .u64 (hi / 65536) 65535)))
  generalize V2.setCell ⟨ga, 2, none⟩ (.int .u64 (Go.bits .and .u64 (hi / 65536) 65535)) = U2 at HX HY HB ⊢
  refine hK.out _ _ ⟨(blk_cell HX.out 1).trans rfl, (blk_cell HX.out 2).trans rfl⟩ (fun _ => ?_)
  clear hK K
  refine zp 19 53 HT_ ?_
  have hc : U2.cell? ⟨ga, 6, none⟩ = some (.int .u64 0) := (blk_cell HY.out 6).trans rfl
  have hf : U2.frozen? ⟨ga, 6, none⟩ = false := blk_frozen HY.out 6
  refine last_ (i := 20) (N := none) #[true, true, true, true, true, true, true, true, true, true, true, true, true, true, true, true, true, true, true, true, true] rfl rfl (one_of HT_.out (by kernel_rfl)) (by decide) (fun K hK => ?_)
  refine skip_ (w1 := U2.setCell ⟨ga, 6, none⟩ (.int .u64 (Go.bits .and .u64 (lo / 65536) 65535))) (by rfl) rfl (by go_simp) ?_
  clear hc hf
  replace HX := Aside0.mk (blk_far HX.out (p := ⟨ga, 6, none⟩) HN.out (.int .u64 (Go.bits .and .u64 (lo / 65536) 65535)))
  replace HY : Aside0 ((U2.setCell ⟨ga, 6, none⟩ (.int .u64 (Go.bits .and .u64 (lo / 65536) 65535))).heap[ga]? = some (.cells #[.int .u64 (Go.bits .and .u64 (hi / 281474976710656) 65535), .int .u64 (Go.bits .and .u64 (hi / 4294967296) 65535), .int .u64 (Go.bits .and .u64 (hi / 65536) 65535), .int .u64 0, .int .u64 (Go.bits .and .u64 (lo / 281474976710656) 65535), .int .u64 (Go.bits .and .u64 (lo / 4294967296) 65535), .int .u64 (Go.bits .and .u64 (lo / 65536) 65535), .int .u64 0] 126 (0, 0))) := ⟨blk_put (cs := #[.int .u64 (Go.bits .and .u64 (hi / 281474976710656) 65535), .int .u64 (Go.bits .and .u64 (hi / 4294967296) 65535), .int .u64 (Go.bits .and .u64 (hi / 65536) 65535), .int .u64 0, .int .u64 (Go.bits .and .u64 (lo / 281474976710656) 65535), .int .u64 (Go.bits .and .u64 (lo / 4294967296) 65535), .int .u64 0, .int .u64 0]) HY.out 6 _ rfl⟩
  replace HB := Aside0.mk (HB.out.setCell (p := ⟨ga, 6, none⟩) HG.out (.int .u64 (Go.bits .and .u64 (lo / 65536) 65535)))
  generalize U2.setCell ⟨ga, 6, none⟩ (.int .u64 (Go.bits .and .u64 (lo / 65536) 65535)) = W3 at HX HY HB ⊢
  refine hK.out _ _ ?_
  clear hK K
  refine zd HT_ ?_
  clear hHeld HT_ HW_
  go_wp2_with fail
  rw [rounds_succ]
  go_upto_region 13 with (fail)
  refine start_ (n := 21) (S := fun w' => w'.cell? ⟨g, 1, none⟩ = some (.int .u64 hi) ∧ w'.cell? ⟨g, 2, none⟩ = some (.int .u64 lo)) (ds := [20]) #[false, false, false, false, false, false, false, false, false, false, false, false, false, false, false, false, false, false, false, false, false] (by kernel_rfl) rfl rfl ⟨(blk_cell (blk_drew HX.out) 1).trans rfl, (blk_cell (blk_drew HX.out) 2).trans rfl⟩ (fun hHeld => ?_)
  refine with_tabW fmt.tab13 fmt.bits13 (fun HT_ HW_ => ?_)
  replace HX := Aside0.mk (blk_drew HX.out)
  replace HY := Aside0.mk (blk_drew HY.out)
  replace HB := Aside0.mk (below_drew1 HB.out)
  generalize W3.drew = V3 at HX HY HB hHeld ⊢
  refine zp 0 35 HT_ ?_; refine zp 1 36 HT_ ?_; refine zp (v := .int .i64 7) 2 37 HT_ ?_ (hy := fun _ => rfl); refine zp 3 38 HT_ ?_; refine zt 4 39 HT_ HW_ hHeld ?_; refine zp 5 40 HT_ ?_; refine zp (v := .int .i64 48) 6 41 HT_ ?_ (hy := fun _ => rfl); refine zp (v := .int .i64 0) 7 42 HT_ ?_ (hy := fun _ => rfl); refine zp 8 43 HT_ ?_; refine zp 9 44 HT_ ?_; refine zp 10 45 HT_ ?_; refine zt 11 46 HT_ HW_ hHeld ?_; refine zp 12 47 HT_ ?_; refine zp (v := .int .i64 48) 13 48 HT_ ?_ (hy := fun _ => rfl); refine zp (v := .int .i64 0) 14 49 HT_ ?_ (hy := fun _ => rfl); refine zp 15 50 HT_ ?_; refine zp 16 51 HT_ ?_; refine zp 17 52 HT_ ?_
  have hc : V3.cell? ⟨ga, 3, none⟩ = some (.int .u64 0) := (blk_cell HY.out 3).trans rfl
  have hf : V3.frozen? ⟨ga, 3, none⟩ = false := blk_frozen HY.out 3
  refine one_ (i := 18) (N := none) #[true, true, true, true, true, true, true, true, true, true, true, true, true, true, true, true, true, true, true, false, false] rfl rfl (one_of HT_.out (by kernel_rfl)) (by decide) (fun K hK => ?_)
  refine skip_ (w1 := V3.setCell ⟨ga, 3, none⟩ (.int .u64 (Go.bits .and .u64 (hi) 65535))) (by rfl) rfl (by go_simp) ?_
  clear hc hf
  replace HX := Aside0.mk (blk_far HX.out (p := ⟨ga, 3, none⟩) HN.out (.int .u64 (Go.bits .and .u64 (hi) 65535)))
  replace HY : Aside0 ((V3.setCell ⟨ga, 3, none⟩ (.int .u64 (Go.bits .and .u64 (hi) 65535))).heap[ga]? = some (.cells #[.int .u64 (Go.bits .and .u64 (hi / 281474976710656) 65535), .int .u64 (Go.bits .and .u64 (hi / 4294967296) 65535), .int .u64 (Go.bits .and .u64 (hi / 65536) 65535), .int .u64 (Go.bits .and .u64 (hi) 65535), .int .u64 (Go.bits .and .u64 (lo / 281474976710656) 65535), .int .u64 (Go.bits .and .u64 (lo / 4294967296) 65535), .int .u64 (Go.bits .and .u64 (lo / 65536) 65535), .int .u64 0] 126 (0, 0))) := ⟨blk_put (cs := #[.int .u64 (Go.bits .and .u64 (hi / 281474976710656) 65535), .int .u64 (Go.bits .and .u64 (hi / 4294967296) 65535), .int .u64 (Go.bits .and .u64 (hi / 65536) 65535), .int .u64 0, .int .u64 (Go.bits .and .u64 (lo / 281474976710656) 65535), .int .u64 (Go.bits .and .u64 (lo / 4294967296) 65535), .int .u64 (Go.bits .and .u64 (lo / 65536) 65535), .int .u64 0]) HY.out 3 _ rfl⟩
  replace HB := Aside0.mk (HB.out.setCell (p := ⟨ga, 3, none⟩) HG.out (.int .u64 (Go.bits .and .u64 (hi) 65535)))
  generalize V3.setCell ⟨ga, 3, none⟩ (.int .u64 (Go.bits .and .u64 (hi) 65535)) = U3 at HX HY HB ⊢
  refine hK.out _ _ ⟨(blk_cell HX.out 1).trans rfl, (blk_cell HX.out 2).trans rfl⟩ (fun _ => ?_)
  clear hK K
  refine zp 19 53 HT_ ?_
  have hc : U3.cell? ⟨ga, 7, none⟩ = some (.int .u64 0) := (blk_cell HY.out 7).trans rfl
  have hf : U3.frozen? ⟨ga, 7, none⟩ = false := blk_frozen HY.out 7
  refine last_ (i := 20) (N := none) #[true, true, true, true, true, true, true, true, true, true, true, true, true, true, true, true, true, true, true, true, true] rfl rfl (one_of HT_.out (by kernel_rfl)) (by decide) (fun K hK => ?_)
  refine skip_ (w1 := U3.setCell ⟨ga, 7, none⟩ (.int .u64 (Go.bits .and .u64 (lo) 65535))) (by rfl) rfl (by go_simp) ?_
  clear hc hf
  replace HX := Aside0.mk (blk_far HX.out (p := ⟨ga, 7, none⟩) HN.out (.int .u64 (Go.bits .and .u64 (lo) 65535)))
  replace HY : Aside0 ((U3.setCell ⟨ga, 7, none⟩ (.int .u64 (Go.bits .and .u64 (lo) 65535))).heap[ga]? = some (.cells #[.int .u64 (Go.bits .and .u64 (hi / 281474976710656) 65535), .int .u64 (Go.bits .and .u64 (hi / 4294967296) 65535), .int .u64 (Go.bits .and .u64 (hi / 65536) 65535), .int .u64 (Go.bits .and .u64 (hi) 65535), .int .u64 (Go.bits .and .u64 (lo / 281474976710656) 65535), .int .u64 (Go.bits .and .u64 (lo / 4294967296) 65535), .int .u64 (Go.bits .and .u64 (lo / 65536) 65535), .int .u64 (Go.bits .and .u64 (lo) 65535)] 126 (0, 0))) := ⟨blk_put (cs := #[.int .u64 (Go.bits .and .u64 (hi / 281474976710656) 65535), .int .u64 (Go.bits .and .u64 (hi / 4294967296) 65535), .int .u64 (Go.bits .and .u64 (hi / 65536) 65535), .int .u64 (Go.bits .and .u64 (hi) 65535), .int .u64 (Go.bits .and .u64 (lo / 281474976710656) 65535), .int .u64 (Go.bits .and .u64 (lo / 4294967296) 65535), .int .u64 (Go.bits .and .u64 (lo / 65536) 65535), .int .u64 0]) HY.out 7 _ rfl⟩
  replace HB := Aside0.mk (HB.out.setCell (p := ⟨ga, 7, none⟩) HG.out (.int .u64 (Go.bits .and .u64 (lo) 65535)))
  generalize U3.setCell ⟨ga, 7, none⟩ (.int .u64 (Go.bits .and .u64 (lo) 65535)) = W4 at HX HY HB ⊢
  refine hK.out _ _ ?_
  clear hK K
  refine zd HT_ ?_
  clear hHeld HT_ HW_
  go_wp2_with fail
  rw [rounds_succ]
  have hc0 : W4.cell? ⟨ga, 0, none⟩ = some (.int .u64 (Go.bits .and .u64 (hi / 281474976710656) 65535)) := (blk_cell HY.out 0).trans rfl
  have hc1 : W4.cell? ⟨ga, 1, none⟩ = some (.int .u64 (Go.bits .and .u64 (hi / 4294967296) 65535)) := (blk_cell HY.out 1).trans rfl
  have hc2 : W4.cell? ⟨ga, 2, none⟩ = some (.int .u64 (Go.bits .and .u64 (hi / 65536) 65535)) := (blk_cell HY.out 2).trans rfl
  have hc3 : W4.cell? ⟨ga, 3, none⟩ = some (.int .u64 (Go.bits .and .u64 (hi) 65535)) := (blk_cell HY.out 3).trans rfl
  have hc4 : W4.cell? ⟨ga, 4, none⟩ = some (.int .u64 (Go.bits .and .u64 (lo / 281474976710656) 65535)) := (blk_cell HY.out 4).trans rfl
  have hc5 : W4.cell? ⟨ga, 5, none⟩ = some (.int .u64 (Go.bits .and .u64 (lo / 4294967296) 65535)) := (blk_cell HY.out 5).trans rfl
  have hc6 : W4.cell? ⟨ga, 6, none⟩ = some (.int .u64 (Go.bits .and .u64 (lo / 65536) 65535)) := (blk_cell HY.out 6).trans rfl
  have hc7 : W4.cell? ⟨ga, 7, none⟩ = some (.int .u64 (Go.bits .and .u64 (lo) 65535)) := (blk_cell HY.out 7).trans rfl
  go_wp2_with fail
  clear hc0 hc1 hc2 hc3 hc4 hc5 hc6 hc7
  refine (run_g hi lo _).mono ?_
  rintro e w2 ⟨rfl, hb⟩
  replace HX := Aside0.mk (blk_below HX.out hb)
  replace HY := Aside0.mk (blk_below HY.out hb)
  replace HB := Aside0.mk (below_step HB.out hb)
  clear hb
  have HC : Aside0 (∀ k : Nat, k < 8 → (#[.int .u64 (Go.bits .and .u64 (hi / 281474976710656) 65535), .int .u64 (Go.bits .and .u64 (hi / 4294967296) 65535), .int .u64 (Go.bits .and .u64 (hi / 65536) 65535), .int .u64 (Go.bits .and .u64 (hi) 65535), .int .u64 (Go.bits .and .u64 (lo / 281474976710656) 65535), .int .u64 (Go.bits .and .u64 (lo / 4294967296) 65535), .int .u64 (Go.bits .and .u64 (lo / 65536) 65535), .int .u64 (Go.bits .and .u64 (lo) 65535)] : Array Value)[k]? = some (.int .u64 ((grpL hi lo).getD k 0))) := ⟨fun k hk => by
    rcases k with _ | _ | _ | _ | _ | _ | _ | _ | k <;> first | omega | rfl⟩
  have HH : Aside0 (∀ k : Nat, k < 8 → 0 ≤ (grpL hi lo).getD k 0 ∧ (grpL hi lo).getD k 0 < 65536) := ⟨fun k hk => by
    rcases k with _ | _ | _ | _ | _ | _ | _ | _ | k <;> first | omega | exact and65535 _⟩
  have HP := Aside0.mk (runF_ok (grpL hi lo))
  have H0 : Aside0 (TxtI (grpL hi lo) (runF (grpL hi lo) 8 0 (0, 0)).1 (runF (grpL hi lo) 8 0 (0, 0)).2 8 0 ⟨#[]⟩ r) := ⟨⟨by omega, by omega, HR.out, by decide⟩⟩
  clear HR
  generalize grpL hi lo = l at HC HH HP H0 ⊢
  generalize (#[.int .u64 (Go.bits .and .u64 (hi / 281474976710656) 65535), .int .u64 (Go.bits .and .u64 (hi / 4294967296) 65535), .int .u64 (Go.bits .and .u64 (hi / 65536) 65535), .int .u64 (Go.bits .and .u64 (hi) 65535), .int .u64 (Go.bits .and .u64 (lo / 281474976710656) 65535), .int .u64 (Go.bits .and .u64 (lo / 4294967296) 65535), .int .u64 (Go.bits .and .u64 (lo / 65536) 65535), .int .u64 (Go.bits .and .u64 (lo) 65535)] : Array Value) = C at HC HY
  obtain ⟨pq, hpq⟩ : ∃ pq, runF l 8 0 (0, 0) = pq := ⟨_, rfl⟩
  rw [hpq] at HP H0
  simp only [hpq]
  clear hpq
  obtain ⟨p, q⟩ := pq
  dsimp only at HP H0 ⊢
  go_wp2_with fail
  go_loopg [9, 10] 8 (fun gg v9 v10 wr => ∃ (i : Nat) (o : ByteArray), v9 = .string o ∧ v10 = .int .i64 (i : Int) ∧ Aside0 (TxtI l p q gg i o r) ∧ Aside0 (wr.heap[ga]? = some (.cells C 126 (0, 0))) ∧ Aside0 (Below w.heap.size w wr))
  case atStart => exact ⟨0, _, rfl, rfl, H0, HY, HB⟩
  case round =>
    obtain ⟨i, o, rfl, rfl, HT, HY, HB⟩ := hrel
    clear H0
    by_cases hi8 : i < 8
    · obtain ⟨m, rfl⟩ := HT.out.pos hi8
      have hlt := r_lt hi8
      have hlt2 := r_ltd hi8
      have hc : wr.cell? ⟨ga, i, none⟩ = some (.int .u64 (l.getD i 0)) := (blk_cell HY.out i).trans (HC.out i hi8)
      have HV := Aside0.mk (HH.out i hi8)
      obtain ⟨x, hx⟩ : ∃ x, l.getD i 0 = x := ⟨_, rfl⟩
      rw [hx] at hc HV
      have HS := Aside0.mk (r_suc (Nat.le_of_lt hi8))
      have HE := Aside0.mk hx
      clear hx
      have HI := Aside0.mk hi8
      clear hi8
      by_cases hip : i = p
      · have he1 := i_eq hip
        have he2 := i_eqd hip
        by_cases hq : 1 < q - p
        · have hg1 := q_gt hq HP.out.2
          have HN := Aside0.mk (HT.out.gap HI.out hip hq HP.out.2)
          have hs2 := sz_2 HT.out
          have HS2 := Aside0.mk (q_next hq HP.out.2)
          clear hip hq
          go_wp2_with fail
          go_roundg m
          case measure => exact Nat.lt_succ_self m
          case rel => exact ⟨q, _, rfl, by rw [HS2.out], HN, HY, HB⟩
        · have hg1 := q_ngt hq HP.out
          have HNP : Aside0 (¬ (i = p ∧ 1 < q - p)) := ⟨fun h => hq h.2⟩
          clear hip hq
          by_cases ho : o.toList = []
          · have ho1 : (o.toList == ([] : List UInt8)) = true := beq_iff_eq.mpr ho
            have ho2 : (o.toList != ([] : List UInt8)) = false := bne_eq_false_iff_eq.mpr ho
            have HN := Aside0.mk (HT.out.hexA HE.out HI.out HNP.out (fun h => h.1 ho))
            clear ho
            go_wp2_with fail
            refine (strconv_FormatUint.calls _ _ _ _ (hex_u HV.out) (HW.out.below HB.out)).mono ?_
            rintro e w4 ⟨rfl, hb⟩
            replace HY := Aside0.mk (blk_below HY.out hb)
            replace HB := Aside0.mk (below_step HB.out hb)
            clear hb
            generalize (⟨(hexL 4 x.toNat).toArray⟩ : ByteArray) = hx at HN ⊢
            have hs4 := sz_h HN.out
            try rw [ByteArray.size_append, show (⟨#[58]⟩ : ByteArray).size = 1 from rfl] at hs4
            go_wp2_with fail
            go_roundg m
            case measure => exact Nat.lt_succ_self m
            case rel => exact ⟨i + 1, _, rfl, by rw [HS.out], HN, HY, HB⟩
          · have ho1 : (o.toList == ([] : List UInt8)) = false := beq_eq_false_iff_ne.mpr ho
            have ho2 : (o.toList != ([] : List UInt8)) = true := bne_iff_ne.mpr ho
            have HO := Aside0.mk ho
            clear ho
            go_wp2_with fail
            refine (strings_HasSuffix.calls _ _ _ _ (suf_u (Nat.le_trans (Nat.le_add_right _ _) HT.out.sz))).mono ?_
            rintro e w3 ⟨rfl, hb⟩
            replace HY := Aside0.mk (blk_below HY.out hb)
            replace HB := Aside0.mk (below_step HB.out hb)
            clear hb hc
            have hc : w3.cell? ⟨ga, i, none⟩ = some (.int .u64 x) := (blk_cell HY.out i).trans ((HC.out i HI.out).trans (by rw [HE.out]))
            cases hs : Lib.hasSuffix o.data.toList [58] with
            | true =>
              have HN := Aside0.mk (HT.out.hexA HE.out HI.out HNP.out (fun h => Bool.noConfusion (hs.symm.trans h.2)))
              clear hs
              go_wp2_with fail
              refine (strconv_FormatUint.calls _ _ _ _ (hex_u HV.out) (HW.out.below HB.out)).mono ?_
              rintro e w4 ⟨rfl, hb⟩
              replace HY := Aside0.mk (blk_below HY.out hb)
              replace HB := Aside0.mk (below_step HB.out hb)
              clear hb
              generalize (⟨(hexL 4 x.toNat).toArray⟩ : ByteArray) = hx at HN ⊢
              have hs4 := sz_h HN.out
              try rw [ByteArray.size_append, show (⟨#[58]⟩ : ByteArray).size = 1 from rfl] at hs4
              go_wp2_with fail
              go_roundg m
              case measure => exact Nat.lt_succ_self m
              case rel => exact ⟨i + 1, _, rfl, by rw [HS.out], HN, HY, HB⟩
            | false =>
              have HN := Aside0.mk (HT.out.hexB HE.out HI.out HNP.out ⟨HO.out, hs⟩)
              have hs1 := sz_1 HT.out
              clear hs
              go_wp2_with fail
              refine (strconv_FormatUint.calls _ _ _ _ (hex_u HV.out) (HW.out.below HB.out)).mono ?_
              rintro e w4 ⟨rfl, hb⟩
              replace HY := Aside0.mk (blk_below HY.out hb)
              replace HB := Aside0.mk (below_step HB.out hb)
              clear hb
              generalize (⟨(hexL 4 x.toNat).toArray⟩ : ByteArray) = hx at HN ⊢
              have hs4 := sz_h HN.out
              try rw [ByteArray.size_append, show (⟨#[58]⟩ : ByteArray).size = 1 from rfl] at hs4
              go_wp2_with fail
              go_roundg m
              case measure => exact Nat.lt_succ_self m
              case rel => exact ⟨i + 1, _, rfl, by rw [HS.out], HN, HY, HB⟩
      · have he1 := i_ne hip
        have he2 := i_ned hip
        have HNP : Aside0 (¬ (i = p ∧ 1 < q - p)) := ⟨fun h => hip h.1⟩
        clear hip
        by_cases ho : o.toList = []
        · have ho1 : (o.toList == ([] : List UInt8)) = true := beq_iff_eq.mpr ho
          have ho2 : (o.toList != ([] : List UInt8)) = false := bne_eq_false_iff_eq.mpr ho
          have HN := Aside0.mk (HT.out.hexA HE.out HI.out HNP.out (fun h => h.1 ho))
          clear ho
          go_wp2_with fail
          refine (strconv_FormatUint.calls _ _ _ _ (hex_u HV.out) (HW.out.below HB.out)).mono ?_
          rintro e w4 ⟨rfl, hb⟩
          replace HY := Aside0.mk (blk_below HY.out hb)
          replace HB := Aside0.mk (below_step HB.out hb)
          clear hb
          generalize (⟨(hexL 4 x.toNat).toArray⟩ : ByteArray) = hx at HN ⊢
          have hs4 := sz_h HN.out
          try rw [ByteArray.size_append, show (⟨#[58]⟩ : ByteArray).size = 1 from rfl] at hs4
          go_wp2_with fail
          go_roundg m
          case measure => exact Nat.lt_succ_self m
          case rel => exact ⟨i + 1, _, rfl, by rw [HS.out], HN, HY, HB⟩
        · have ho1 : (o.toList == ([] : List UInt8)) = false := beq_eq_false_iff_ne.mpr ho
          have ho2 : (o.toList != ([] : List UInt8)) = true := bne_iff_ne.mpr ho
          have HO := Aside0.mk ho
          clear ho
          go_wp2_with fail
          refine (strings_HasSuffix.calls _ _ _ _ (suf_u (Nat.le_trans (Nat.le_add_right _ _) HT.out.sz))).mono ?_
          rintro e w3 ⟨rfl, hb⟩
          replace HY := Aside0.mk (blk_below HY.out hb)
          replace HB := Aside0.mk (below_step HB.out hb)
          clear hb hc
          have hc : w3.cell? ⟨ga, i, none⟩ = some (.int .u64 x) := (blk_cell HY.out i).trans ((HC.out i HI.out).trans (by rw [HE.out]))
          cases hs : Lib.hasSuffix o.data.toList [58] with
          | true =>
            have HN := Aside0.mk (HT.out.hexA HE.out HI.out HNP.out (fun h => Bool.noConfusion (hs.symm.trans h.2)))
            clear hs
            go_wp2_with fail
            refine (strconv_FormatUint.calls _ _ _ _ (hex_u HV.out) (HW.out.below HB.out)).mono ?_
            rintro e w4 ⟨rfl, hb⟩
            replace HY := Aside0.mk (blk_below HY.out hb)
            replace HB := Aside0.mk (below_step HB.out hb)
            clear hb
            generalize (⟨(hexL 4 x.toNat).toArray⟩ : ByteArray) = hx at HN ⊢
            have hs4 := sz_h HN.out
            try rw [ByteArray.size_append, show (⟨#[58]⟩ : ByteArray).size = 1 from rfl] at hs4
            go_wp2_with fail
            go_roundg m
            case measure => exact Nat.lt_succ_self m
            case rel => exact ⟨i + 1, _, rfl, by rw [HS.out], HN, HY, HB⟩
          | false =>
            have HN := Aside0.mk (HT.out.hexB HE.out HI.out HNP.out ⟨HO.out, hs⟩)
            have hs1 := sz_1 HT.out
            clear hs
            go_wp2_with fail
            refine (strconv_FormatUint.calls _ _ _ _ (hex_u HV.out) (HW.out.below HB.out)).mono ?_
            rintro e w4 ⟨rfl, hb⟩
            replace HY := Aside0.mk (blk_below HY.out hb)
            replace HB := Aside0.mk (below_step HB.out hb)
            clear hb
            generalize (⟨(hexL 4 x.toNat).toArray⟩ : ByteArray) = hx at HN ⊢
            have hs4 := sz_h HN.out
            try rw [ByteArray.size_append, show (⟨#[58]⟩ : ByteArray).size = 1 from rfl] at hs4
            go_wp2_with fail
            go_roundg m
            case measure => exact Nat.lt_succ_self m
            case rel => exact ⟨i + 1, _, rfl, by rw [HS.out], HN, HY, HB⟩
    · have hlt := r_ge hi8
      have hlt2 := r_ged hi8
      have e := HT.out.fin hi8
      subst e
      clear hi8
      go_wp2_with fail
      exact bodyPost_ret (v := .string o) (by simp [results, Tryz.results62, go_sem]) rfl ⟨rfl, HB.out⟩
def address_Format.f (a0 : Bool) (a1 a2 : Int) : Option ByteArray := if a0 = true then some (fmt6 a1 a2) else strings_Join.f [decB (Go.bits .and .u64 (a2 / 16777216) 255), decB (Go.bits .and .u64 (a2 / 65536) 255), decB (Go.bits .and .u64 (a2 / 256) 255), decB (Go.bits .and .u64 (a2) 255)] (⟨#[46]⟩ : ByteArray)
theorem address_Format.calls (a0 : Bool) (a1 a2 : Int) (r : ByteArray) (w : World) (h : address_Format.f a0 a1 a2 = some r) (hW : WOK w) :
    Calls Tryz.prog 62 #[.agg #[.bool a0, .int .u64 a1, .int .u64 a2]] w fun e w' => e = .returned (.string r) ∧ Below w.heap.size w w' := by
  unfold address_Format.f at h
  cases a0 with
  | true =>
    rw [if_pos rfl] at h
    injection h with h
    subst h
    exact format6 a1 a2 w hW
  | false =>
    rw [if_neg (by decide)] at h
    exact format4 a1 a2 r w h hW
end Go.Proofs.YtnphnhkinjppjaaGreatDoor.Q
end

section
set_option maxHeartbeats 8000000
set_option maxRecDepth 100000
namespace Go.Proofs.YtnphnhkinjppjaaGreatDoor.Q
open Go.RowKit Go.Proofs.YtnphnhkinjppjaaGreatDoorW.PrintWords Go.Proofs.YtnphnhkinjppjaaGreatDoorW.PrintLast Go.Proofs.YtnphnhkinjppjaaGreatDoorW.PrintMore
attribute [local go_sem] max2_int min2_int max_two min_two max_three min_three max_four min_four
def address_FormatPrefix.f (a0_0 : Bool) (a0_1 : Int) (a0_2 : Int) (a0_3 : Int) : Option (ByteArray) := (address_Format.f a0_0 a0_1 a0_2).bind fun t134 => (if t134.size + 1 ≤ 9223372036854775807 then ((strconv_Itoa.f a0_3).bind fun t135 => (if (t134 ++ (⟨#[47]⟩ : ByteArray)).size + t135.size ≤ 9223372036854775807 then (some ((t134 ++ (⟨#[47]⟩ : ByteArray)) ++ t135)) else (none))) else (none))
def address_FormatPrefix.T1 : Bool × List (List Nat × List Nat) := (true, [([], []), ([0], [0]), ([1], [1]), ([2], [2]), ([], []), ([4], [4]), ([5, 2], [5]), ([3, 6], [3, 6]), ([7, 6, 0, 1, 2, 3, 4, 5, 6, 7], [7])])
def address_FormatPrefix.B1 : List Nat := [0, 1, 3, 7, 0, 16, 55, 127, 255]
theorem address_FormatPrefix.tab1 : rtab .any (opsOf Tryz.f39 1) = address_FormatPrefix.T1 := by kernel_rfl
theorem address_FormatPrefix.bits1 : waitsOk address_FormatPrefix.T1.2 address_FormatPrefix.B1 = true := by kernel_rfl
theorem address_FormatPrefix.calls (a0_0 : Bool) (a0_1 : Int) (a0_2 : Int) (a0_3 : Int) (r : ByteArray) (w : World) (h : address_FormatPrefix.f a0_0 a0_1 a0_2 a0_3 = some r) (hW_ : WOK w) :
 Calls Tryz.prog 39 #[.agg #[.bool a0_0, .int .u64 a0_1, .int .u64 a0_2, .int .i64 a0_3]] w fun e w' => e = .returned (.string r) ∧ Below w.heap.size w w' := by
 have hu33 := Tryz.underlying33
 have hu31 := Tryz.underlying31
 have HB := Aside0.mk (Below.refl w.heap.size w)
 unfold address_FormatPrefix.f at h; have H := h
 clear h
 replace H := Option.bind_eq_some_iff.mp H
 obtain ⟨t134, A20, H⟩ := H
 try dsimp only at H
 have A2 := Aside0.mk A20; clear A20
 by_cases c3 : t134.size + 1 ≤ 9223372036854775807
 rotate_left
 · rw [if_neg c3] at H
   exact absurd H (by simp)
 rw [if_pos c3] at H
 have c3b0 := eq_true c3
 have c3b1 : decide (t134.size + 1 ≤ 9223372036854775807) = true := decide_eq_true c3
 try have c3b2 : (9223372036854775807 < t134.size + 1) = False := eq_false (Nat.not_lt.2 c3)
 replace H := Option.bind_eq_some_iff.mp H
 obtain ⟨t135, A40, H⟩ := H
 try dsimp only at H
 have A4 := Aside0.mk A40; clear A40
 by_cases c5 : (t134 ++ (⟨#[47]⟩ : ByteArray)).size + t135.size ≤ 9223372036854775807
 rotate_left
 · rw [if_neg c5] at H
   exact absurd H (by simp)
 rw [if_pos c5] at H
 have c5b0 := eq_true c5
 have c5b8 : t134.size + 1 + t135.size ≤ 9223372036854775807 := by have q_ := c5; simp only [ByteArray.size_append] at q_; first | exact q_ | (rw [Nat.add_assoc]; exact q_) | (simp only [Nat.add_assoc] at q_ ⊢; exact q_)
 have c5b7 : (9223372036854775807 < t134.size + 1 + t135.size) = False := eq_false (Nat.not_lt.2 c5b8)
 replace c5b8 := eq_true c5b8
 have c5b1 : decide ((t134 ++ (⟨#[47]⟩ : ByteArray)).size + t135.size ≤ 9223372036854775807) = true := decide_eq_true c5
 try have c5b2 : (9223372036854775807 < (t134 ++ (⟨#[47]⟩ : ByteArray)).size + t135.size) = False := eq_false (Nat.not_lt.2 c5)
 obtain rfl := Option.some.inj H
 go_enter Tryz.func39, Tryz.ntmps39
 try go_wp2_with (first | ((with_reducible refine gate_dst (N := 1) rfl ?_); refine zx 1 #[.bool a0_0, .int .u64 a0_1, .int .u64 a0_2, .int .i64 a0_3] 33 ?_; intro gb133 hg w6 hbox hb; have BK133 := Aside0.mk (hbox); have GW133 := zG HB hg; have GE133 := zG HB hg; replace HB := Aside0.mk (below_step (zB HB) hb); clear hb hbox hg))
 replace BK133 := Aside0.mk (blk_drew BK133.out); replace HB := Aside0.mk (below_drew1 HB.out)
 refine start_ (n := 9) (S := fun w' => w'.cell? ⟨gb133, 0, none⟩ = some (.bool a0_0) ∧ w'.cell? ⟨gb133, 1, none⟩ = some (.int .u64 a0_1) ∧ w'.cell? ⟨gb133, 2, none⟩ = some (.int .u64 a0_2) ∧ w'.cell? ⟨gb133, 3, none⟩ = some (.int .i64 a0_3)) (ds := []) #[false, false, false, false, false, false, false, false, false] (by kernel_rfl) rfl rfl ⟨zc BK133 0, zc BK133 1, zc BK133 2, zc BK133 3⟩ (fun hHeld => ?_); refine with_tabW address_FormatPrefix.tab1 address_FormatPrefix.bits1 (fun HT_ HW_ => ?_)
 generalize w6.drew = w7 at BK133 HB hHeld ⊢
 refine zp 0 3 HT_ ?_; refine zp 4 7 HT_ ?_; refine zt 1 4 HT_ HW_ hHeld ?_; refine zt 5 8 HT_ HW_ hHeld ?_; refine zo 2 5 HT_ (fun K hK => ?_)
 refine zg Tryz.func62 #[.agg #[.bool a0_0, .int .u64 a0_1, .int .u64 a0_2]] ?_
 with_reducible refine (address_Format.calls a0_0 a0_1 a0_2 t134 _ A2.out (WOK.below hW_ (zB HB))).mono ?_
 rintro e w8 ⟨rfl, hb⟩
 refine ⟨_, rfl, ?_⟩
 replace BK133 := zkb BK133 hb; replace HB := Aside0.mk (below_step (zB HB) hb)
 try clear hb
 refine hK.out _ _ ⟨zc BK133 0, zc BK133 1, zc BK133 2, zc BK133 3⟩ (fun hHeld => ?_)
 clear hK K
 refine zn 5 ?_; refine zp 3 6 HT_ ?_; refine zo 6 9 HT_ (fun K hK => ?_)
 refine zg Tryz.func41 #[.int .i64 a0_3] ?_
 with_reducible refine (strconv_Itoa.calls a0_3 t135 _ A4.out (WOK.below hW_ (zB HB))).mono ?_
 rintro e w9 ⟨rfl, hb⟩
 refine ⟨_, rfl, ?_⟩
 replace BK133 := zkb BK133 hb; replace HB := Aside0.mk (below_step (zB HB) hb)
 try clear hb
 refine hK.out _ _ ⟨zc BK133 0, zc BK133 1, zc BK133 2, zc BK133 3⟩ (fun hHeld => ?_)
 clear hK K
 refine zn 9 ?_; refine zp 7 10 HT_ ?_; refine zp 8 2 HT_ ?_; refine zd HT_ ?_
 try go_wp2
 go_ret
 exact ⟨zr, zB HB⟩
end Go.Proofs.YtnphnhkinjppjaaGreatDoor.Q
end

section
set_option maxHeartbeats 8000000
set_option maxRecDepth 100000
namespace Go.Proofs.YtnphnhkinjppjaaGreatDoor.Q
open Go.RowKit Go.Proofs.YtnphnhkinjppjaaGreatDoorW.PrintWords Go.Proofs.YtnphnhkinjppjaaGreatDoorW.PrintLast Go.Proofs.YtnphnhkinjppjaaGreatDoorW.PrintMore
structure FmtI (w W : World) (b : Nat) (out : List UInt8) : Prop where
  bld : IsBld w.heap.size b out W
  bel : Below w.heap.size w W
  lt : b < W.heap.size
theorem FmtI.below {w W W1 : World} {b : Nat} {out : List UInt8} (h : FmtI w W b out) (hb : Below W.heap.size W W1) : FmtI w W1 b out := ⟨bld_below h.bld hb, below_then h.bel h.bel.size hb, Nat.lt_of_lt_of_le h.lt hb.size⟩
theorem others_below {e : TypeId} {b : Option Nat} {W W1 : World} (hb : Below W.heap.size W W1) : Lib.OthersKept e b W W1 := fun k o hk _ _ => blk_below hk hb
theorem FmtI.write {w W W1 : World} {b : Nat} {out : List UInt8} {s : ByteArray} (h : FmtI w W b out) (h1 : IsBld w.heap.size b (out ++ s.data.toList) W1) (h2 : Below w.heap.size W W1) : FmtI w W1 b (out ++ s.data.toList) := ⟨h1, h.bel.trans h2, Nat.lt_of_lt_of_le h.lt h2.size⟩
def polList : List ByteArray := [⟨#[102, 105, 114, 115, 116]⟩, ⟨#[108, 97, 115, 116]⟩, ⟨#[98, 115, 100]⟩, ⟨#[108, 105, 110, 117, 120]⟩, ⟨#[100, 114, 111, 112]⟩]
def sp : ByteArray := ⟨#[32]⟩
def namePart (word : ByteArray) (n : Int) : List UInt8 := if n = 1 then [] else (sp ++ word ++ sp ++ rdOf ByteArray.empty polList (n - 1)).data.toList
theorem name_walk (w W : World) (b : Nat) (out : List UInt8) (word : ByteArray) (n : Int) (h : FmtI w W b out) (hw : word.size ≤ 100) (hl : out.length ≤ 10000000) (h1 : 1 ≤ n) (h5 : n ≤ 5) :
    Calls Tryz.prog 42 #[.string word, .int .i64 n, .pointer (some ⟨b, 0, none⟩)] W fun e w' => e = .returned (.tuple #[]) ∧ FmtI w w' b (out ++ namePart word n) ∧ Lib.OthersKept 5 (some b) W w' := by
  have H := Aside0.mk h
  have HL := Aside0.mk hl
  clear h hl
  by_cases hn : n = 1
  · have HE : Aside0 (namePart word n = []) := ⟨if_pos hn⟩
    have b1 : (n != 1) = false := by rw [hn]; rfl
    clear hn
    go_enter Tryz.func42, Tryz.ntmps42
    go_wp2
    go_end0
    exact ⟨rfl, by rw [HE.out, List.append_nil]; exact H.out, Lib.OthersKept.refl _ _ _⟩
  · have HE : Aside0 (namePart word n = (sp ++ word ++ sp ++ rdOf ByteArray.empty polList (n - 1)).data.toList) := ⟨if_neg hn⟩
    have b1 : (n != 1) = true := bne_iff_ne.mpr hn
    clear hn
    go_enter Tryz.func42, Tryz.ntmps42
    go_wp2_with fail
    refine (asset_policies.calls polList W rfl).mono ?_
    rintro e w2 ⟨v, rfl, ho, hb⟩
    obtain ⟨A1, c1, hv⟩ := Kd.R_slice ho
    subst hv
    obtain ⟨ad, ha, hx⟩ := Kd.at_string (Kd.R_reads' ho).2.2 (n - 1) (by omega) (by show n - 1 < (5 : Nat); omega)
    subst ha
    have HO := Aside0.mk (others_below (e := 5) (b := some b) hb)
    have H2 := Aside0.mk (H.out.below hb)
    clear ho hb
    have hps : (rdOf ByteArray.empty polList (n - 1)).size ≤ 10 := by
      have hns : n = 1 ∨ n = 2 ∨ n = 3 ∨ n = 4 ∨ n = 5 := by omega
      rcases hns with rfl | rfl | rfl | rfl | rfl <;> decide
    obtain ⟨nm, hnm⟩ : ∃ x, rdOf ByteArray.empty polList (n - 1) = x := ⟨_, rfl⟩
    rw [hnm] at hx hps
    have HNM := Aside0.mk hnm
    clear hnm
    rw [show (n - 1).toNat = n.toNat - 1 from by omega] at hx
    have h5l : polList.length = 5 := rfl
    rw [h5l]
    have p1 : 0 ≤ n - 1 := by omega
    have p2 : n - 1 < 5 := by omega
    go_wp2_with fail
    refine (bld_str w.heap.size b out (sp ++ word ++ sp ++ nm) w2 H2.out.bld (by rw [ByteArray.size_append, ByteArray.size_append, ByteArray.size_append]; have := HL.out; have : sp.size = 1 := rfl; omega) H2.out.bel.size).mono ?_
    rintro e w3 ⟨rfl, hb1, hb2, hb3⟩
    have H3 := Aside0.mk (H2.out.write hb1 hb2)
    have HO3 := Aside0.mk (HO.out.trans hb3)
    clear hb1 hb2 hb3 hx p1 p2 hps h5l
    go_wp2
    go_end0
    exact ⟨rfl, by rw [HE.out, HNM.out]; exact H3.out, HO3.out⟩
theorem itoa_size {n : Int} (h : 0 ≤ n) (h2 : n ≤ 100000) : (⟨(Lib.itoa n).toArray⟩ : ByteArray).size ≤ 30 := by
  show (Lib.itoa n).toArray.size ≤ 30
  simp only [List.size_toArray]
  exact Nat.le_trans (Lib.itoa_length_le n (by omega) (by omega)) (by decide)
def numPart (word : ByteArray) (n usual : Int) : List UInt8 := if n = usual then [] else (sp ++ word ++ sp ++ ⟨(Lib.itoa n).toArray⟩).data.toList
theorem number_walk (w W : World) (b : Nat) (out : List UInt8) (word : ByteArray) (n usual : Int) (h : FmtI w W b out) (hW : WOK w) (hw : word.size ≤ 100) (hl : out.length ≤ 10000000) (h1 : 0 ≤ n) (h5 : n ≤ 100000) :
    Calls Tryz.prog 40 #[.string word, .int .i64 n, .int .i64 usual, .pointer (some ⟨b, 0, none⟩)] W fun e w' => e = .returned (.tuple #[]) ∧ FmtI w w' b (out ++ numPart word n usual) ∧ Lib.OthersKept 5 (some b) W w' := by
  have H := Aside0.mk h
  have HL := Aside0.mk hl
  have HW := Aside0.mk (hW.below h.bel)
  clear h hl
  by_cases hn : n = usual
  · have HE : Aside0 (numPart word n usual = []) := ⟨if_pos hn⟩
    have b1 : (n != usual) = false := by rw [hn]; simp
    clear hn
    go_enter Tryz.func40, Tryz.ntmps40
    go_wp2
    go_end0
    exact ⟨rfl, by rw [HE.out, List.append_nil]; exact H.out, Lib.OthersKept.refl _ _ _⟩
  · have HE : Aside0 (numPart word n usual = (sp ++ word ++ sp ++ ⟨(Lib.itoa n).toArray⟩).data.toList) := ⟨if_neg hn⟩
    have b1 : (n != usual) = true := bne_iff_ne.mpr hn
    have hps := itoa_size (n := n) (by omega) (by omega)
    have hit : strconv_Itoa.f n = some ⟨(Lib.itoa n).toArray⟩ := if_pos ⟨by omega, by omega⟩
    have HIT := Aside0.mk hit
    obtain ⟨nm, hnm⟩ : ∃ x, (⟨(Lib.itoa n).toArray⟩ : ByteArray) = x := ⟨_, rfl⟩
    rw [hnm] at hps HIT HE
    clear hn hit hnm
    go_enter Tryz.func40, Tryz.ntmps40
    go_wp2_with fail
    refine (strconv_Itoa.calls n nm W HIT.out HW.out).mono ?_
    rintro e w2 ⟨rfl, hb⟩
    have HO := Aside0.mk (others_below (e := 5) (b := some b) hb)
    have H2 := Aside0.mk (H.out.below hb)
    clear hb
    go_wp2_with fail
    refine (bld_str w.heap.size b out (sp ++ word ++ sp ++ nm) w2 H2.out.bld (by rw [ByteArray.size_append, ByteArray.size_append, ByteArray.size_append]; have := HL.out; have : sp.size = 1 := rfl; omega) H2.out.bel.size).mono ?_
    rintro e w3 ⟨rfl, hb1, hb2, hb3⟩
    have H3 := Aside0.mk (H2.out.write hb1 hb2)
    have HO3 := Aside0.mk (HO.out.trans hb3)
    clear hb1 hb2 hb3 hps
    go_wp2
    go_end0
    exact ⟨rfl, by rw [HE.out]; exact H3.out, HO3.out⟩
def appList : List ByteArray := [⟨#[114, 97, 119]⟩, ⟨#[104, 116, 116, 112]⟩, ⟨#[115, 109, 116, 112]⟩, ⟨#[116, 108, 115]⟩, ⟨#[100, 110, 115]⟩]
def bHost5 : ByteArray := ⟨#[104, 111, 115, 116, 32]⟩
def bSvc9 : ByteArray := ⟨#[32, 115, 101, 114, 118, 105, 99, 101, 32]⟩
def svcPart (s : S74) : List UInt8 := (bSvc9 ++ (if s.f0 = 17 then ⟨#[117, 100, 112]⟩ else ⟨#[116, 99, 112]⟩) ++ sp ++ ⟨(Lib.itoa s.f1).toArray⟩ ++ sp ++ rdOf ByteArray.empty appList s.f2).data.toList
def headPart (A : S36) (fp : ByteArray) : List UInt8 := (bHost5 ++ A.f0 ++ sp ++ fp).data.toList
def linePart (A : S36) (fp : ByteArray) : List UInt8 :=
  headPart A fp ++ namePart ⟨#[112, 111, 108, 105, 99, 121]⟩ A.f2 ++ namePart ⟨#[102, 114, 97, 103]⟩ A.f3 ++ numPart ⟨#[104, 111, 112, 115]⟩ A.f4 0 ++ numPart ⟨#[119, 105, 110, 100, 111, 119]⟩ A.f5 8192 ++ (if A.f6 = true then [32, 115, 116, 97, 109, 112, 115] else []) ++ numPart ⟨#[118, 97, 108, 117, 101]⟩ A.f7 1 ++ (A.f8.map svcPart).flatten ++ [59, 10]
def fineB (A : S36) : Bool := decide (A.f0.size ≤ 100) && decide (1 ≤ A.f2) && decide (A.f2 ≤ 5) && decide (1 ≤ A.f3) && decide (A.f3 ≤ 5) && decide (0 ≤ A.f4) && decide (A.f4 ≤ 100000) && decide (0 ≤ A.f5) && decide (A.f5 ≤ 100000) && decide (0 ≤ A.f7) && decide (A.f7 ≤ 100000) && decide (A.f8.length ≤ 100) && A.f8.all fun s => decide (0 ≤ s.f1) && decide (s.f1 ≤ 100000) && decide (0 ≤ s.f2) && decide (s.f2 ≤ 4)
structure FineA (A : S36) : Prop where
  f0 : A.f0.size ≤ 100
  f2 : 1 ≤ A.f2 ∧ A.f2 ≤ 5
  f3 : 1 ≤ A.f3 ∧ A.f3 ≤ 5
  f4 : 0 ≤ A.f4 ∧ A.f4 ≤ 100000
  f5 : 0 ≤ A.f5 ∧ A.f5 ≤ 100000
  f7 : 0 ≤ A.f7 ∧ A.f7 ≤ 100000
  f8 : A.f8.length ≤ 100
  sv : ∀ s ∈ A.f8, 0 ≤ s.f1 ∧ s.f1 ≤ 100000 ∧ 0 ≤ s.f2 ∧ s.f2 ≤ 4
theorem fine_of {A : S36} (h : fineB A = true) : FineA A := by
  unfold fineB at h
  simp only [Bool.and_eq_true, decide_eq_true_eq, List.all_eq_true] at h
  obtain ⟨⟨⟨⟨⟨⟨⟨⟨⟨⟨⟨⟨h0, h1⟩, h2⟩, h3⟩, h4⟩, h5⟩, h6⟩, h7⟩, h8⟩, h9⟩, h10⟩, h11⟩, h12⟩ := h
  exact ⟨h0, ⟨h1, h2⟩, ⟨h3, h4⟩, ⟨h5, h6⟩, ⟨h7, h8⟩, ⟨h9, h10⟩, h11, fun s hs => by obtain ⟨⟨⟨a, b⟩, c⟩, d⟩ := h12 s hs; exact ⟨a, b, c, d⟩⟩
def asset_Format.l0 : Nat → List S36 → Nat → List UInt8 → Option (List UInt8)
  | 0, _, _, _ => none
  | k + 1, l, i, out =>
    if i < l.length then
      if fineB (rd_T36 l (i : Int)) = true then
        (address_FormatPrefix.f (rd_T36 l (i : Int)).f1.f0.f0 (rd_T36 l (i : Int)).f1.f0.f1 (rd_T36 l (i : Int)).f1.f0.f2 (rd_T36 l (i : Int)).f1.f1).bind fun fp =>
          if fp.size ≤ 1000 then asset_Format.l0 k l (i + 1) (out ++ linePart (rd_T36 l (i : Int)) fp) else none
      else none
    else some out
def asset_Format.f (k : Nat) (l : List S36) : Option ByteArray := (asset_Check.f k l).bind fun c => if c = 0 then (if l.length ≤ 100 then (asset_Format.l0 k l 0 []).bind fun out => some ⟨out.toArray⟩ else none) else some ⟨#[]⟩
theorem asset_Format.mono_l : ∀ (k : Nat) (l : List S36) (i : Nat) (out : List UInt8), LeO (asset_Format.l0 k l i out) (asset_Format.l0 (k + 1) l i out) := by
  intro k
  induction k with
  | zero => intro l i out; exact LeO.none _
  | succ k ih =>
    intro l i out
    rw [asset_Format.l0, asset_Format.l0]
    exact LeO.ite (LeO.ite (LeO.bind (LeO.refl _) fun fp => LeO.ite (ih _ _ _) (LeO.refl _)) (LeO.refl _)) (LeO.refl _)
theorem asset_Format.mono : ∀ l k, LeO (asset_Format.f k l) (asset_Format.f (k + 1) l) := fun l k => LeO.bind (asset_Check.mono _ _) fun c => LeO.ite (LeO.ite (LeO.bind (asset_Format.mono_l _ _ _ _) fun out => LeO.refl _) (LeO.refl _)) (LeO.refl _)
theorem name_size (w : ByteArray) (n : Int) (hw : w.size ≤ 100) (h1 : 1 ≤ n) (h5 : n ≤ 5) : (namePart w n).length ≤ 200 := by
  have hps : (rdOf ByteArray.empty polList (n - 1)).size ≤ 10 := by
    have hns : n = 1 ∨ n = 2 ∨ n = 3 ∨ n = 4 ∨ n = 5 := by omega
    rcases hns with rfl | rfl | rfl | rfl | rfl <;> decide
  unfold namePart
  split
  · simp
  · rw [data_length, ByteArray.size_append, ByteArray.size_append, ByteArray.size_append]
    have : sp.size = 1 := rfl
    omega
theorem num_size (w : ByteArray) (n u : Int) (hw : w.size ≤ 100) (h1 : 0 ≤ n) (h5 : n ≤ 100000) : (numPart w n u).length ≤ 200 := by
  have hps := itoa_size h1 h5
  unfold numPart
  split
  · simp
  · rw [data_length, ByteArray.size_append, ByteArray.size_append, ByteArray.size_append]
    have : sp.size = 1 := rfl
    omega
theorem format_on {k : Nat} {l : List S36} {i : Nat} {out o : List UInt8} (h : asset_Format.l0 k l i out = some o) (hi : i < l.length) {A : S36} (hA : rd_T36 l (i : Int) = A) :
    ∃ k' fp, k = k' + 1 ∧ FineA A ∧ address_FormatPrefix.f A.f1.f0.f0 A.f1.f0.f1 A.f1.f0.f2 A.f1.f1 = some fp ∧ fp.size ≤ 1000 ∧ asset_Format.l0 k' l (i + 1) (out ++ linePart A fp) = some o := by
  subst hA
  cases k with
  | zero => cases h
  | succ k =>
    rw [asset_Format.l0, if_pos hi] at h
    split at h
    · rename_i hf
      obtain ⟨fp, h1, h2⟩ := Option.bind_eq_some_iff.mp h
      split at h2
      · rename_i hs
        exact ⟨k, fp, rfl, fine_of hf, h1, hs, h2⟩
      · cases h2
    · cases h
theorem format_fin {k : Nat} {l : List S36} {i : Nat} {out o : List UInt8} (h : asset_Format.l0 k l i out = some o) (hi : ¬ i < l.length) : out = o := by
  cases k with
  | zero => cases h
  | succ k => rw [asset_Format.l0, if_neg hi] at h; exact Option.some.inj h
theorem app_size {n : Int} (h0 : 0 ≤ n) (h4 : n ≤ 4) : (rdOf ByteArray.empty appList n).size ≤ 10 := by
  have hns : n = 0 ∨ n = 1 ∨ n = 2 ∨ n = 3 ∨ n = 4 := by omega
  rcases hns with rfl | rfl | rfl | rfl | rfl <;> decide
theorem pro_size (n : Int) : ((if n = 17 then ⟨#[117, 100, 112]⟩ else ⟨#[116, 99, 112]⟩ : ByteArray)).size = 3 := by split <;> rfl
theorem svc_size {s : S74} (h : 0 ≤ s.f1 ∧ s.f1 ≤ 100000 ∧ 0 ≤ s.f2 ∧ s.f2 ≤ 4) : (svcPart s).length ≤ 100 := by
  have h1 := itoa_size h.1 h.2.1
  have h2 := app_size h.2.2.1 h.2.2.2
  have h3 := pro_size s.f0
  have h4 : bSvc9.size = 9 := rfl
  have h5 : sp.size = 1 := rfl
  rw [svcPart, data_length, ByteArray.size_append, ByteArray.size_append, ByteArray.size_append, ByteArray.size_append, ByteArray.size_append]
  omega
theorem svcs_size : ∀ (l : List S74), (∀ s ∈ l, 0 ≤ s.f1 ∧ s.f1 ≤ 100000 ∧ 0 ≤ s.f2 ∧ s.f2 ≤ 4) → ((l.map svcPart).flatten).length ≤ 100 * l.length
  | [], _ => by simp
  | s :: l, h => by
    have h1 := svc_size (h s (List.mem_cons_self ..))
    have h2 := svcs_size l (fun x hx => h x (List.mem_cons_of_mem _ hx))
    rw [List.map_cons, List.flatten_cons, List.length_append, List.length_cons]
    omega
theorem line_size {A : S36} {fp : ByteArray} (h : FineA A) (hf : fp.size ≤ 1000) : (linePart A fp).length ≤ 30000 := by
  have h1 := name_size ⟨#[112, 111, 108, 105, 99, 121]⟩ A.f2 (by decide) h.f2.1 h.f2.2
  have h2 := name_size ⟨#[102, 114, 97, 103]⟩ A.f3 (by decide) h.f3.1 h.f3.2
  have h3 := num_size ⟨#[104, 111, 112, 115]⟩ A.f4 0 (by decide) h.f4.1 h.f4.2
  have h4 := num_size ⟨#[119, 105, 110, 100, 111, 119]⟩ A.f5 8192 (by decide) h.f5.1 h.f5.2
  have h5 := num_size ⟨#[118, 97, 108, 117, 101]⟩ A.f7 1 (by decide) h.f7.1 h.f7.2
  have h6 := svcs_size A.f8 h.sv
  have h7 : (if A.f6 = true then [32, 115, 116, 97, 109, 112, 115] else [] : List UInt8).length ≤ 7 := by split <;> decide
  have h8 : (headPart A fp).length ≤ 1200 := by
    rw [headPart, data_length, ByteArray.size_append, ByteArray.size_append, ByteArray.size_append]
    have := h.f0; have : sp.size = 1 := rfl; have : bHost5.size = 5 := rfl; omega
  have h9 := h.f8
  have h10 : ([59, 10] : List UInt8).length = 2 := rfl
  unfold linePart
  simp only [List.length_append] at *
  omega
theorem st_size (b : Bool) : (if b = true then [32, 115, 116, 97, 109, 112, 115] else [] : List UInt8).length ≤ 7 := by split <;> decide
theorem svc_len {pr nm ap : ByteArray} {x : Nat} (h : pr.size = 3 ∧ nm.size ≤ 30 ∧ ap.size ≤ 10) (hl : x ≤ 3013100) : x + (bSvc9 ++ pr ++ sp ++ nm ++ sp ++ ap).size ≤ 100000000 := by
  rw [ByteArray.size_append, ByteArray.size_append, ByteArray.size_append, ByteArray.size_append, ByteArray.size_append]
  have h4 : bSvc9.size = 9 := rfl
  have h5 : sp.size = 1 := rfl
  omega
theorem svc_mem {l : List S74} {j : Nat} (h : j < l.length) : rd_T74 l (j : Int) ∈ l := by
  have : rd_T74 l (j : Int) = l[j] := by unfold rd_T74; rw [Int.toNat_natCast, List.getD_eq_getElem?_getD, List.getElem?_eq_getElem h]; rfl
  rw [this]; exact List.getElem_mem h
theorem svc_take {l : List S74} {j : Nat} (h : j < l.length) : ((l.take (j + 1)).map svcPart).flatten = ((l.take j).map svcPart).flatten ++ svcPart (rd_T74 l (j : Int)) := by
  have : rd_T74 l (j : Int) = l[j] := by unfold rd_T74; rw [Int.toNat_natCast, List.getD_eq_getElem?_getD, List.getElem?_eq_getElem h]; rfl
  rw [this, ← List.take_append_getElem h, List.map_append, List.flatten_append]
  simp
theorem keepS {b ga : Nat} {v : Array Value} {w w' : World} (h : w.heap[ga]? = some (.cells v 74 (0, 0))) (hb : ga ≠ b) (ho : Lib.OthersKept 5 (some b) w w') : w'.heap[ga]? = some (.cells v 74 (0, 0)) :=
  ho ga _ h (fun e => hb (Option.some.inj e)) (fun c fz e => by injection e with e1 e2 e3; exact absurd e2 (by decide))
theorem keepA {b ga : Nat} {v : Array Value} {w w' : World} (h : w.heap[ga]? = some (.cells v 36 (0, 0))) (hb : ga ≠ b) (ho : Lib.OthersKept 5 (some b) w w') : w'.heap[ga]? = some (.cells v 36 (0, 0)) :=
  ho ga _ h (fun e => hb (Option.some.inj e)) (fun c fz e => by injection e with e1 e2 e3; exact absurd e2 (by decide))
theorem asset_Format.calls (k : Nat) (A : Option Addr) (c : Nat) (l : List S36) (r : ByteArray) (w : World) (hC : Kd.C k36 w A l.length l) (hc : l.length ≤ c) (h : asset_Format.f k l = some r) (hW_ : WOK w) :
    Calls Tryz.prog 14 #[.slice A l.length c] w fun e w' => e = .returned (.string r) ∧ Below w.heap.size w w' := by
  have hu := Tryz.underlying36
  have hu33 := Tryz.underlying33
  have HC := Aside0.mk hC
  have HCC := Aside0.mk hc
  have HW0 := Aside0.mk hW_
  obtain ⟨n, hn⟩ : ∃ n, l.length = n := ⟨_, rfl⟩
  obtain ⟨cv, hch, hr⟩ := Option.bind_eq_some_iff.mp h
  have HCH := Aside0.mk hch
  have HCK := Aside0.mk (asset_Check.calls k A c l cv w hC hc hch)
  clear h hch hC hc hW_
  rw [hn] at HCK ⊢
  have HN := Aside0.mk hn
  by_cases hz : cv = 0
  · rw [if_pos hz] at hr
    subst hz
    by_cases h100 : l.length ≤ 100
    · rw [if_pos h100] at hr
      obtain ⟨out, ho, hr2⟩ := Option.bind_eq_some_iff.mp hr
      have hr3 := Option.some.inj hr2
      subst hr3
      have HO := Aside0.mk ho
      have H100 : Aside0 (n ≤ 100) := ⟨by omega⟩
      clear hr hr2 ho h100 hn
      go_enter Tryz.func14, Tryz.ntmps14
      go_wp2_with fail
      refine HCK.out.mono ?_
      rintro e w2 ⟨rfl, hb2⟩
      have HB2 := Aside0.mk hb2
      clear hb2
      go_upto_region 4 with (fail)
      have HF : Aside0 (FmtI w2 (w2.alloc (.cells #[.pointer none, .slice none 0 0] 62)) w2.heap.size []) := ⟨bld_new w2, below_alloc (Below.refl _ _) _, by show _ < (w2.heap.push _).size; rw [Array.size_push]; exact Nat.lt_succ_self _⟩
      obtain ⟨b, hb⟩ : ∃ x, w2.heap.size = x := ⟨_, rfl⟩
      simp only [hb] at HF ⊢
      have HBB := Aside0.mk hb
      clear hb
      generalize w2.alloc (.cells #[.pointer none, .slice none 0 0] 62) = W0 at HF ⊢
      go_upto_region 5 with (fail)
      go_loopg [16] k (fun gg v16 wr => ∃ (i : Nat) (o : List UInt8), v16 = .int .i64 (i : Int) ∧ Aside0 (asset_Format.l0 gg l i o = some out ∧ i ≤ n ∧ o.length ≤ 30000 * i) ∧ Aside0 (FmtI w2 wr b o))
      case atStart => exact ⟨0, [], rfl, ⟨HO.out, by omega, by simp⟩, HF⟩
      case round =>
        clear HO HF W0
        obtain ⟨i, o, rfl, HI, HF⟩ := hrel
        have HB := Aside0.mk (below_then HB2.out HB2.out.size HF.out.bel)
        by_cases hi : i < n
        · have b2 : decide ((i : Int) < (n : Int)) = true := decide_eq_true (by omega)
          have b2' : decide (i < n) = true := decide_eq_true hi
          obtain ⟨ad, Ab, cb, rfl, k0, k1, k2, k3, k4, k5, k6, k7, k8, k9, k10, k11, kl, kc⟩ := at_T36 HC.out (i : Int) (by omega) (by rw [HN.out]; omega)
          replace k0 := pw_cell_below HB.out k0
          replace k1 := pw_cell_below HB.out k1
          replace k2 := pw_cell_below HB.out k2
          replace k3 := pw_cell_below HB.out k3
          replace k4 := pw_cell_below HB.out k4
          replace k5 := pw_cell_below HB.out k5
          replace k6 := pw_cell_below HB.out k6
          replace k7 := pw_cell_below HB.out k7
          replace k8 := pw_cell_below HB.out k8
          replace k9 := pw_cell_below HB.out k9
          replace k10 := pw_cell_below HB.out k10
          replace k11 := pw_cell_below HB.out k11
          simp only [Int.toNat_natCast] at k0 k1 k2 k3 k4 k5 k6 k7 k8 k9 k10 k11
          obtain ⟨a, ha⟩ : ∃ a, rd_T36 l (i : Int) = a := ⟨_, rfl⟩
          obtain ⟨k', fp, hk', hfine, hfp, hfs, hnext⟩ := format_on HI.out.1 (by rw [HN.out]; exact hi) ha
          rw [ha] at k0 k1 k2 k3 k4 k5 k6 k7 k8 k9 k10 k11 kl kc
          subst hk'
          have HFN := Aside0.mk hfine
          have HFP := Aside0.mk hfp
          have HFS := Aside0.mk hfs
          have HNX := Aside0.mk hnext
          have HKL := Aside0.mk kl
          have HKC0 := Aside0.mk kc
          have HKC := Aside0.mk (Kd.C_below kc HB.out)
          have HII := Aside0.mk hi
          have HOL : Aside0 (o.length ≤ 3000000) := ⟨by have := HI.out.2.2; have := HI.out.2.1; have := H100.out; omega⟩
          have HIL : Aside0 (o.length ≤ 30000 * i) := ⟨HI.out.2.2⟩
          have b3 : n ≤ 1000000 := by have := H100.out; omega
          clear kl kc hfine hfp hfs hnext ha HI
          go_upto_region 7 with (fail)
          obtain ⟨ga, hga⟩ : ∃ x, wr.heap.size = x := ⟨_, rfl⟩
          have HA : Aside0 ((wr.alloc (.cells (asC a (.slice Ab a.f8.length cb)) 36)).heap[wr.heap.size]? = some (.cells (asC a (.slice Ab a.f8.length cb)) 36 (0, 0))) := ⟨heap_alloc_new _ _⟩
          rw [hga] at HA
          simp only [hga]
          have HGA : Aside0 (ga ≠ b ∧ w2.heap.size ≤ ga) := ⟨by have := HF.out.lt; omega, by have := HF.out.bel.size; omega⟩
          clear hga k0 k1 k2 k3 k4 k5 k6 k7 k8 k9 k10 k11
          replace HKC := Aside0.mk (Kd.C_below HKC.out (below_alloc (Below.refl _ _) (.cells (asC a (.slice Ab a.f8.length cb)) 36)))
          replace HF := Aside0.mk (HF.out.below (below_alloc (Below.refl _ _) (.cells (asC a (.slice Ab a.f8.length cb)) 36)))
          change Code.wp _ _ _ _ (wr.alloc (.cells (asC a (.slice Ab a.f8.length cb)) 36))
          generalize wr.alloc (.cells (asC a (.slice Ab a.f8.length cb)) 36) = W1 at HA HKC HF ⊢
          obtain ⟨d0, d1, d2, d3, d4, d5, d6, d7, d8, d9, d10, d11⟩ := zc12 HA
          obtain ⟨f0, f1, f2, f3, f4, f5, f6, f7, f8, f9, f10, f11⟩ := zf12 HA
          have s1 : (9223372036854775807 < 5 + a.f0.size) = False := eq_false (by have := HFN.out.f0; omega)
          have s2 : (9223372036854775807 < 5 + a.f0.size + 1) = False := eq_false (by have := HFN.out.f0; omega)
          have s3 : (9223372036854775807 < 5 + a.f0.size + 1 + fp.size) = False := eq_false (by have := HFN.out.f0; have := HFS.out; omega)
          refine start_ (n := 9) (S := fun w' => w'.cell? ⟨ga, 0, none⟩ = some (.string a.f0) ∧ w'.cell? ⟨ga, 1, none⟩ = some (.bool a.f1.f0.f0) ∧ w'.cell? ⟨ga, 2, none⟩ = some (.int .u64 a.f1.f0.f1) ∧ w'.cell? ⟨ga, 3, none⟩ = some (.int .u64 a.f1.f0.f2) ∧ w'.cell? ⟨ga, 4, none⟩ = some (.int .i64 a.f1.f1) ∧ w'.cell? ⟨ga, 5, none⟩ = some (.int .i64 a.f2) ∧ w'.cell? ⟨ga, 6, none⟩ = some (.int .i64 a.f3) ∧ w'.cell? ⟨ga, 7, none⟩ = some (.int .i64 a.f4) ∧ w'.cell? ⟨ga, 8, none⟩ = some (.int .i64 a.f5) ∧ w'.cell? ⟨ga, 9, none⟩ = some (.bool a.f6) ∧ w'.cell? ⟨ga, 10, none⟩ = some (.int .i64 a.f7) ∧ w'.cell? ⟨ga, 11, none⟩ = some (.slice Ab a.f8.length cb)) (ds := []) #[false, false, false, false, false, false, false, false, false] (by kernel_rfl) rfl rfl ⟨zc HA 0, zc HA 1, zc HA 2, zc HA 3, zc HA 4, zc HA 5, zc HA 6, zc HA 7, zc HA 8, zc HA 9, zc HA 10, zc HA 11⟩ (fun hHeld => ?_)
          replace HF := Aside0.mk (HF.out.below (Below.drew (Below.refl _ _)))
          replace HKC := Aside0.mk (Kd.C_below HKC.out (Below.drew (Below.refl _ _)))
          replace HA : Aside0 (W1.drew.heap[ga]? = some (.cells (asC a (.slice Ab a.f8.length cb)) 36 (0, 0))) := ⟨HA.out⟩
          clear d0 d1 d2 d3 d4 d5 d6 d7 d8 d9 d10 d11 f0 f1 f2 f3 f4 f5 f6 f7 f8 f9 f10 f11
          generalize W1.drew = W2 at HA HKC HF hHeld ⊢
          refine zp0 0 20 ?_; refine zp0 4 24 ?_; refine zt0 1 21 hHeld ?_; refine zp0 2 22 ?_; refine zp0 3 23 ?_; refine zt0 5 25 hHeld ?_; refine zo0 6 26 (fun K hK => ?_)
          refine zg Tryz.func39 #[.agg #[.bool a.f1.f0.f0, .int .u64 a.f1.f0.f1, .int .u64 a.f1.f0.f2, .int .i64 a.f1.f1]] ?_
          with_reducible refine (address_FormatPrefix.calls a.f1.f0.f0 a.f1.f0.f1 a.f1.f0.f2 a.f1.f1 fp W2 HFP.out (HW0.out.below (below_then HB2.out HB2.out.size HF.out.bel))).mono ?_
          rintro e w3 ⟨rfl, hb⟩
          refine ⟨_, rfl, ?_⟩
          replace HA := Aside0.mk (blk_below HA.out hb)
          replace HF := Aside0.mk (HF.out.below hb)
          replace HKC := Aside0.mk (Kd.C_below HKC.out hb)
          clear hb
          refine hK.out _ _ ⟨zc HA 0, zc HA 1, zc HA 2, zc HA 3, zc HA 4, zc HA 5, zc HA 6, zc HA 7, zc HA 8, zc HA 9, zc HA 10, zc HA 11⟩ (fun hHeld => ?_)
          clear hK K
          refine zn 26 ?_; refine zp0 7 27 ?_; refine zo0 8 28 (fun K hK => ?_)
          refine zg Tryz.func38 #[.pointer (some ⟨b, 0, none⟩), .string (bHost5 ++ a.f0 ++ sp ++ fp)] ?_
          refine (bld_str w2.heap.size b o (bHost5 ++ a.f0 ++ sp ++ fp) w3 HF.out.bld (by rw [ByteArray.size_append, ByteArray.size_append, ByteArray.size_append]; have := HOL.out; have := HFN.out.f0; have := HFS.out; have : sp.size = 1 := rfl; have : bHost5.size = 5 := rfl; omega) HF.out.bel.size).mono ?_
          rintro e w4 ⟨rfl, hb1, hb2, hb3⟩
          refine ⟨_, rfl, ?_⟩
          have HF4 := Aside0.mk (HF.out.write hb1 hb2)
          have HA4 := Aside0.mk (keepA HA.out HGA.out.1 hb3)
          clear hb1 hb2 hb3
          replace HA := HA4
          replace HF := HF4
          clear HA4 HF4
          refine hK.out _ _ ⟨zc HA 0, zc HA 1, zc HA 2, zc HA 3, zc HA 4, zc HA 5, zc HA 6, zc HA 7, zc HA 8, zc HA 9, zc HA 10, zc HA 11⟩ (fun hHeld => ?_)
          clear hK K
          refine zn 28 ?_; refine zd0 ?_
          replace HF : Aside0 (FmtI w2 w4 b (o ++ headPart a fp)) := ⟨HF.out⟩
          have HL : Aside0 ((o ++ headPart a fp).length ≤ 3002000) := ⟨by rw [List.length_append, headPart, data_length, ByteArray.size_append, ByteArray.size_append, ByteArray.size_append]; have := HOL.out; have := HFN.out.f0; have := HFS.out; have : sp.size = 1 := rfl; have : bHost5.size = 5 := rfl; omega⟩
          have HW2 := Aside0.mk (HW0.out.below HB2.out)
          clear hHeld s1 s2 s3 HKC
          obtain ⟨d0, d1, d2, d3, d4, d5, d6, d7, d8, d9, d10, d11⟩ := zc12 HA
          go_wp2_with fail
          refine (name_walk w2 w4 b (o ++ headPart a fp) ⟨#[112, 111, 108, 105, 99, 121]⟩ a.f2 HF.out (by decide) (by have := HL.out; omega) HFN.out.f2.1 HFN.out.f2.2).mono ?_
          rintro e w5 ⟨rfl, hf, ho⟩
          replace HA := Aside0.mk (keepA HA.out HGA.out.1 ho)
          replace HF := Aside0.mk hf
          replace HL : Aside0 ((o ++ headPart a fp ++ namePart ⟨#[112, 111, 108, 105, 99, 121]⟩ a.f2).length ≤ 3002200) := ⟨by rw [List.length_append]; have := HL.out; have := name_size ⟨#[112, 111, 108, 105, 99, 121]⟩ a.f2 (by decide) HFN.out.f2.1 HFN.out.f2.2; omega⟩
          clear hf ho d0 d1 d2 d3 d4 d5 d6 d7 d8 d9 d10 d11
          obtain ⟨d0, d1, d2, d3, d4, d5, d6, d7, d8, d9, d10, d11⟩ := zc12 HA
          go_wp2_with fail
          refine (name_walk w2 w5 b (o ++ headPart a fp ++ namePart ⟨#[112, 111, 108, 105, 99, 121]⟩ a.f2) ⟨#[102, 114, 97, 103]⟩ a.f3 HF.out (by decide) (by have := HL.out; omega) HFN.out.f3.1 HFN.out.f3.2).mono ?_
          rintro e w6 ⟨rfl, hf, ho⟩
          replace HA := Aside0.mk (keepA HA.out HGA.out.1 ho)
          replace HF := Aside0.mk hf
          replace HL : Aside0 ((o ++ headPart a fp ++ namePart ⟨#[112, 111, 108, 105, 99, 121]⟩ a.f2 ++ namePart ⟨#[102, 114, 97, 103]⟩ a.f3).length ≤ 3002400) := ⟨by rw [List.length_append]; have := HL.out; have := name_size ⟨#[102, 114, 97, 103]⟩ a.f3 (by decide) HFN.out.f3.1 HFN.out.f3.2; omega⟩
          clear hf ho d0 d1 d2 d3 d4 d5 d6 d7 d8 d9 d10 d11
          obtain ⟨d0, d1, d2, d3, d4, d5, d6, d7, d8, d9, d10, d11⟩ := zc12 HA
          go_wp2_with fail
          refine (number_walk w2 w6 b (o ++ headPart a fp ++ namePart ⟨#[112, 111, 108, 105, 99, 121]⟩ a.f2 ++ namePart ⟨#[102, 114, 97, 103]⟩ a.f3) ⟨#[104, 111, 112, 115]⟩ a.f4 0 HF.out HW2.out (by decide) (by have := HL.out; omega) HFN.out.f4.1 HFN.out.f4.2).mono ?_
          rintro e w7 ⟨rfl, hf, ho⟩
          replace HA := Aside0.mk (keepA HA.out HGA.out.1 ho)
          replace HF := Aside0.mk hf
          replace HL : Aside0 ((o ++ headPart a fp ++ namePart ⟨#[112, 111, 108, 105, 99, 121]⟩ a.f2 ++ namePart ⟨#[102, 114, 97, 103]⟩ a.f3 ++ numPart ⟨#[104, 111, 112, 115]⟩ a.f4 0).length ≤ 3002600) := ⟨by rw [List.length_append]; have := HL.out; have := num_size ⟨#[104, 111, 112, 115]⟩ a.f4 0 (by decide) HFN.out.f4.1 HFN.out.f4.2; omega⟩
          clear hf ho d0 d1 d2 d3 d4 d5 d6 d7 d8 d9 d10 d11
          obtain ⟨d0, d1, d2, d3, d4, d5, d6, d7, d8, d9, d10, d11⟩ := zc12 HA
          go_wp2_with fail
          refine (number_walk w2 w7 b (o ++ headPart a fp ++ namePart ⟨#[112, 111, 108, 105, 99, 121]⟩ a.f2 ++ namePart ⟨#[102, 114, 97, 103]⟩ a.f3 ++ numPart ⟨#[104, 111, 112, 115]⟩ a.f4 0) ⟨#[119, 105, 110, 100, 111, 119]⟩ a.f5 8192 HF.out HW2.out (by decide) (by have := HL.out; omega) HFN.out.f5.1 HFN.out.f5.2).mono ?_
          rintro e w8 ⟨rfl, hf, ho⟩
          replace HA := Aside0.mk (keepA HA.out HGA.out.1 ho)
          replace HF := Aside0.mk hf
          replace HL : Aside0 ((o ++ headPart a fp ++ namePart ⟨#[112, 111, 108, 105, 99, 121]⟩ a.f2 ++ namePart ⟨#[102, 114, 97, 103]⟩ a.f3 ++ numPart ⟨#[104, 111, 112, 115]⟩ a.f4 0 ++ numPart ⟨#[119, 105, 110, 100, 111, 119]⟩ a.f5 8192).length ≤ 3002800) := ⟨by rw [List.length_append]; have := HL.out; have := num_size ⟨#[119, 105, 110, 100, 111, 119]⟩ a.f5 8192 (by decide) HFN.out.f5.1 HFN.out.f5.2; omega⟩
          clear hf ho d0 d1 d2 d3 d4 d5 d6 d7 d8 d9 d10 d11
          obtain ⟨d0, d1, d2, d3, d4, d5, d6, d7, d8, d9, d10, d11⟩ := zc12 HA
          go_upto_if 48 with (fail)
          go_cut [3] (fun v3 wc => v3 = .pointer (some ⟨b, 0, none⟩) ∧ Aside0 (FmtI w2 wc b (o ++ headPart a fp ++ namePart ⟨#[112, 111, 108, 105, 99, 121]⟩ a.f2 ++ namePart ⟨#[102, 114, 97, 103]⟩ a.f3 ++ numPart ⟨#[104, 111, 112, 115]⟩ a.f4 0 ++ numPart ⟨#[119, 105, 110, 100, 111, 119]⟩ a.f5 8192 ++ (if a.f6 = true then [32, 115, 116, 97, 109, 112, 115] else []))) ∧ Aside0 (wc.heap[ga]? = some (.cells (asC a (.slice Ab a.f8.length cb)) 36 (0, 0))))
          case first =>
            by_cases hst : a.f6 = true
            · have HST := Aside0.mk hst
              rw [hst]
              go_wp2_with fail
              refine (bld_str w2.heap.size b (o ++ headPart a fp ++ namePart ⟨#[112, 111, 108, 105, 99, 121]⟩ a.f2 ++ namePart ⟨#[102, 114, 97, 103]⟩ a.f3 ++ numPart ⟨#[104, 111, 112, 115]⟩ a.f4 0 ++ numPart ⟨#[119, 105, 110, 100, 111, 119]⟩ a.f5 8192) ⟨#[32, 115, 116, 97, 109, 112, 115]⟩ w8 HF.out.bld (by have := HL.out; have : (⟨#[32, 115, 116, 97, 109, 112, 115]⟩ : ByteArray).size = 7 := rfl; omega) HF.out.bel.size).mono ?_
              rintro e w9 ⟨rfl, hb1, hb2, hb3⟩
              have HF9 := Aside0.mk (HF.out.write hb1 hb2)
              have HA9 := Aside0.mk (keepA HA.out HGA.out.1 hb3)
              clear hb1 hb2 hb3
              go_wp2
              go_meet
              case rel => exact ⟨rfl, ⟨by rw [if_pos HST.out]; exact HF9.out⟩, HA9⟩
            · have HST := Aside0.mk hst
              rw [show a.f6 = false from by simpa using hst]
              go_wp2
              go_meet
              case rel => exact ⟨rfl, ⟨by rw [if_neg HST.out, List.append_nil]; exact HF.out⟩, HA⟩
          case rest =>
            obtain ⟨rfl, HFc, HAc⟩ := hcut
            replace HF := HFc
            replace HA := HAc
            clear HFc HAc d0 d1 d2 d3 d4 d5 d6 d7 d8 d9 d10 d11
            replace HL : Aside0 ((o ++ headPart a fp ++ namePart ⟨#[112, 111, 108, 105, 99, 121]⟩ a.f2 ++ namePart ⟨#[102, 114, 97, 103]⟩ a.f3 ++ numPart ⟨#[104, 111, 112, 115]⟩ a.f4 0 ++ numPart ⟨#[119, 105, 110, 100, 111, 119]⟩ a.f5 8192 ++ (if a.f6 = true then [32, 115, 116, 97, 109, 112, 115] else [])).length ≤ 3002900) := ⟨by rw [List.length_append]; have := HL.out; have := st_size a.f6; omega⟩
            obtain ⟨d0, d1, d2, d3, d4, d5, d6, d7, d8, d9, d10, d11⟩ := zc12 HA
            go_wp2_with fail
            refine (number_walk w2 wc b (o ++ headPart a fp ++ namePart ⟨#[112, 111, 108, 105, 99, 121]⟩ a.f2 ++ namePart ⟨#[102, 114, 97, 103]⟩ a.f3 ++ numPart ⟨#[104, 111, 112, 115]⟩ a.f4 0 ++ numPart ⟨#[119, 105, 110, 100, 111, 119]⟩ a.f5 8192 ++ (if a.f6 = true then [32, 115, 116, 97, 109, 112, 115] else [])) ⟨#[118, 97, 108, 117, 101]⟩ a.f7 1 HF.out HW2.out (by decide) (by have := HL.out; omega) HFN.out.f7.1 HFN.out.f7.2).mono ?_
            rintro e w9 ⟨rfl, hf, ho⟩
            replace HA := Aside0.mk (keepA HA.out HGA.out.1 ho)
            replace HF := Aside0.mk hf
            replace HL : Aside0 ((o ++ headPart a fp ++ namePart ⟨#[112, 111, 108, 105, 99, 121]⟩ a.f2 ++ namePart ⟨#[102, 114, 97, 103]⟩ a.f3 ++ numPart ⟨#[104, 111, 112, 115]⟩ a.f4 0 ++ numPart ⟨#[119, 105, 110, 100, 111, 119]⟩ a.f5 8192 ++ (if a.f6 = true then [32, 115, 116, 97, 109, 112, 115] else []) ++ numPart ⟨#[118, 97, 108, 117, 101]⟩ a.f7 1).length ≤ 3003100) := ⟨by rw [List.length_append]; have := HL.out; have := num_size ⟨#[118, 97, 108, 117, 101]⟩ a.f7 1 (by decide) HFN.out.f7.1 HFN.out.f7.2; omega⟩
            clear hf ho d0 d1 d2 d3 d4 d5 d6 d7 d8 d9 d10 d11
            obtain ⟨o5, ho5⟩ : ∃ x, o ++ headPart a fp ++ namePart ⟨#[112, 111, 108, 105, 99, 121]⟩ a.f2 ++ namePart ⟨#[102, 114, 97, 103]⟩ a.f3 ++ numPart ⟨#[104, 111, 112, 115]⟩ a.f4 0 ++ numPart ⟨#[119, 105, 110, 100, 111, 119]⟩ a.f5 8192 ++ (if a.f6 = true then [32, 115, 116, 97, 109, 112, 115] else []) ++ numPart ⟨#[118, 97, 108, 117, 101]⟩ a.f7 1 = x := ⟨_, rfl⟩
            rw [ho5] at HF HL
            have HL5 := HL
            have HO5 := Aside0.mk ho5
            clear ho5
            obtain ⟨d0, d1, d2, d3, d4, d5, d6, d7, d8, d9, d10, d11⟩ := zc12 HA
            go_upto_region 18 with (fail)
            clear d0 d1 d2 d3 d4 d5 d6 d7 d8 d9 d10 d11
            go_loopg [57] (a.f8.length + 1) (fun gg v57 wr => ∃ j : Nat, v57 = .int .i64 (j : Int) ∧ Aside0 (gg + j = a.f8.length + 1 ∧ j ≤ a.f8.length) ∧ Aside0 (FmtI w2 wr b (o5 ++ ((a.f8.take j).map svcPart).flatten)) ∧ Aside0 (wr.heap[ga]? = some (.cells (asC a (.slice Ab a.f8.length cb)) 36 (0, 0))))
            case atStart => exact ⟨0, rfl, ⟨by omega, by omega⟩, ⟨by simpa using HF.out⟩, HA⟩
            case round =>
              clear HF HA HL
              obtain ⟨j, rfl, HJ, HF, HA⟩ := hrel
              have HB := Aside0.mk (below_then HB2.out HB2.out.size HF.out.bel)
              have HL : Aside0 ((o5 ++ ((a.f8.take j).map svcPart).flatten).length ≤ 3013100) := ⟨by rw [List.length_append]; have := HL5.out; have h1 := svcs_size (a.f8.take j) (fun s hs => HFN.out.sv s (List.mem_of_mem_take hs)); rw [List.length_take] at h1; have := HFN.out.f8; have := HJ.out.2; omega⟩
              by_cases hj : j < a.f8.length
              · have HJJ := Aside0.mk hj
                have c2 : decide ((j : Int) < (a.f8.length : Int)) = true := decide_eq_true (by omega)
                have c2' : decide (j < a.f8.length) = true := decide_eq_true hj
                obtain ⟨ads, rfl, k0, k1, k2⟩ := at_T74 (Kd.C_below HKC0.out HB.out) (j : Int) (by omega) (by omega)
                simp only [Int.toNat_natCast] at k0 k1 k2
                have HTK := Aside0.mk (svc_take hj)
                have HSM := Aside0.mk (HFN.out.sv _ (svc_mem hj))
                obtain ⟨s, hs⟩ : ∃ s, rd_T74 a.f8 (j : Int) = s := ⟨_, rfl⟩
                rw [hs] at k0 k1 k2 HTK HSM
                have c3 : a.f8.length ≤ 1000000 := by have := HFN.out.f8; omega
                clear hs
                go_upto_region 20 with (fail)
                obtain ⟨gs, hgs⟩ : ∃ x, wr.heap.size = x := ⟨_, rfl⟩
                have HS : Aside0 ((wr.alloc (.cells #[.int .i64 s.f0, .int .i64 s.f1, .int .i64 s.f2] 74)).heap[wr.heap.size]? = some (.cells #[.int .i64 s.f0, .int .i64 s.f1, .int .i64 s.f2] 74 (0, 0))) := ⟨heap_alloc_new _ _⟩
                have HGS : Aside0 (wr.heap.size ≠ b) := ⟨by have := HF.out.lt; omega⟩
                rw [hgs] at HS HGS
                simp only [hgs]
                clear hgs k0 k1 k2
                replace HA := Aside0.mk (blk_alloc HA.out (.cells #[.int .i64 s.f0, .int .i64 s.f1, .int .i64 s.f2] 74))
                replace HF := Aside0.mk (HF.out.below (below_alloc (Below.refl _ _) (.cells #[.int .i64 s.f0, .int .i64 s.f1, .int .i64 s.f2] 74)))
                change Code.wp _ _ _ _ (wr.alloc (.cells #[.int .i64 s.f0, .int .i64 s.f1, .int .i64 s.f2] 74))
                generalize wr.alloc (.cells #[.int .i64 s.f0, .int .i64 s.f1, .int .i64 s.f2] 74) = V1 at HA HS HF ⊢
                obtain ⟨e0, e1, e2⟩ := zc3 HS
                go_upto_if 63 with (fail)
                go_cut [10] (fun v10 wc => v10 = .string (if s.f0 = 17 then ⟨#[117, 100, 112]⟩ else ⟨#[116, 99, 112]⟩) ∧ Aside0 (FmtI w2 wc b (o5 ++ ((a.f8.take j).map svcPart).flatten)) ∧ Aside0 (wc.heap[ga]? = some (.cells (asC a (.slice (some ads) a.f8.length cb)) 36 (0, 0))) ∧ Aside0 (wc.heap[gs]? = some (.cells #[.int .i64 s.f0, .int .i64 s.f1, .int .i64 s.f2] 74 (0, 0))))
                case first =>
                  by_cases hp : s.f0 = 17
                  · have c5 : (s.f0 == 17) = true := beq_iff_eq.mpr hp
                    have HP := Aside0.mk hp
                    clear hp
                    (first | rw [c5] | skip)
                    go_wp2
                    go_meet
                    case rel => exact ⟨by rw [if_pos HP.out], HF, HA, HS⟩
                  · have c5 : (s.f0 == 17) = false := beq_eq_false_iff_ne.mpr hp
                    have HP := Aside0.mk hp
                    clear hp
                    (first | rw [c5] | skip)
                    go_wp2
                    go_meet
                    case rel => exact ⟨by rw [if_neg HP.out], HF, HA, HS⟩
                case rest =>
                  clear HF HA HS e0 e1 e2
                  obtain ⟨rfl, HF, HA, HS⟩ := hcut
                  have c6 := pro_size s.f0
                  have HSV : Aside0 (svcPart s = (bSvc9 ++ (if s.f0 = 17 then ⟨#[117, 100, 112]⟩ else ⟨#[116, 99, 112]⟩) ++ sp ++ ⟨(Lib.itoa s.f1).toArray⟩ ++ sp ++ rdOf ByteArray.empty appList s.f2).data.toList) := ⟨rfl⟩
                  obtain ⟨pr, hpr⟩ : ∃ x : ByteArray, (if s.f0 = 17 then ⟨#[117, 100, 112]⟩ else ⟨#[116, 99, 112]⟩ : ByteArray) = x := ⟨_, rfl⟩
                  have c7 := itoa_size HSM.out.1 HSM.out.2.1
                  have c8 := app_size HSM.out.2.2.1 HSM.out.2.2.2
                  have HIT : Aside0 (strconv_Itoa.f s.f1 = some ⟨(Lib.itoa s.f1).toArray⟩) := ⟨if_pos ⟨by have := HSM.out.1; omega, by have := HSM.out.2.1; omega⟩⟩
                  obtain ⟨nm, hnm⟩ : ∃ x, (⟨(Lib.itoa s.f1).toArray⟩ : ByteArray) = x := ⟨_, rfl⟩
                  obtain ⟨ap, hap⟩ : ∃ x, rdOf ByteArray.empty appList s.f2 = x := ⟨_, rfl⟩
                  rw [hpr] at HSV c6 ⊢
                  rw [hnm] at HSV HIT c7
                  rw [hap] at HSV c8
                  have HAP := Aside0.mk hap
                  clear hpr hnm hap
                  have t1 : (9223372036854775807 < 9 + pr.size) = False := eq_false (by omega)
                  have t2 : (9223372036854775807 < 9 + pr.size + 1) = False := eq_false (by omega)
                  have t3 : (9223372036854775807 < 9 + pr.size + 1 + nm.size) = False := eq_false (by omega)
                  have t4 : (9223372036854775807 < 9 + pr.size + 1 + nm.size + 1) = False := eq_false (by omega)
                  have t5 : (9223372036854775807 < 9 + pr.size + 1 + nm.size + 1 + ap.size) = False := eq_false (by omega)
                  have HSZ : Aside0 (pr.size = 3 ∧ nm.size ≤ 30 ∧ ap.size ≤ 10) := ⟨c6, c7, c8⟩
                  clear c6 c7 c8
                  go_upto_region 23 with (fail)
                  refine start_ (n := 15) (S := fun w' => w'.cell? ⟨gs, 0, none⟩ = some (.int .i64 s.f0) ∧ w'.cell? ⟨gs, 1, none⟩ = some (.int .i64 s.f1) ∧ w'.cell? ⟨gs, 2, none⟩ = some (.int .i64 s.f2)) (ds := []) #[false, false, false, false, false, false, false, false, false, false, false, false, false, false, false] (by kernel_rfl) rfl rfl ⟨zc HS 0, zc HS 1, zc HS 2⟩ (fun hHeld => ?_)
                  replace HF := Aside0.mk (HF.out.below (Below.drew (Below.refl _ _)))
                  replace HA : Aside0 (wc.drew.heap[ga]? = some (.cells (asC a (.slice (some ads) a.f8.length cb)) 36 (0, 0))) := ⟨HA.out⟩
                  replace HS : Aside0 (wc.drew.heap[gs]? = some (.cells #[.int .i64 s.f0, .int .i64 s.f1, .int .i64 s.f2] 74 (0, 0))) := ⟨HS.out⟩
                  generalize wc.drew = V2 at HA HS HF hHeld ⊢
                  refine zp0 0 64 ?_; refine zp0 1 65 ?_; refine zp0 2 66 ?_; refine zp0 3 67 ?_; refine zp0 9 73 ?_; refine zt0 4 68 hHeld ?_; refine zt0 10 74 hHeld ?_; refine zo0 5 69 (fun K hK => ?_)
                  refine zg Tryz.func41 #[.int .i64 s.f1] ?_
                  with_reducible refine (strconv_Itoa.calls s.f1 nm V2 HIT.out (HW0.out.below (below_then HB2.out HB2.out.size HF.out.bel))).mono ?_
                  rintro e V3 ⟨rfl, hb⟩
                  refine ⟨_, rfl, ?_⟩
                  replace HA := Aside0.mk (blk_below HA.out hb)
                  replace HS := Aside0.mk (blk_below HS.out hb)
                  replace HF := Aside0.mk (HF.out.below hb)
                  clear hb
                  refine hK.out _ _ ⟨zc HS 0, zc HS 1, zc HS 2⟩ (fun hHeld => ?_)
                  clear hK K
                  refine zn 69 ?_; refine zp0 6 70 ?_; refine zp0 7 71 ?_; refine zo0 8 72 (fun K hK => ?_)
                  refine zg Tryz.func44 #[] ?_
                  with_reducible refine (asset_apps.calls appList V3 rfl).mono ?_
                  rintro e V4 ⟨v, rfl, hlist, hb⟩
                  refine ⟨_, rfl, ?_⟩
                  replace HA := Aside0.mk (blk_below HA.out hb)
                  replace HS := Aside0.mk (blk_below HS.out hb)
                  replace HF := Aside0.mk (HF.out.below hb)
                  clear hb
                  obtain ⟨Al, cl, hv⟩ := Kd.R_slice hlist
                  subst hv
                  have q0 : 0 ≤ s.f2 := HSM.out.2.2.1
                  have q1 : s.f2 < (5 : Int) := by have := HSM.out.2.2.2; omega
                  obtain ⟨adl, hal, hx⟩ := Kd.at_string (Kd.R_reads' hlist).2.2 s.f2 q0 q1
                  subst hal
                  rw [HAP.out] at hx
                  have h5l : appList.length = 5 := rfl
                  rw [h5l]
                  clear hlist
                  replace q0 := eq_true q0
                  replace q1 := eq_true q1
                  refine hK.out _ _ ⟨zc HS 0, zc HS 1, zc HS 2⟩ (fun hHeld => ?_)
                  clear hK K
                  refine zn 72 ?_; refine zp0 11 75 ?_
                  refine zo0 12 76 (fun K hK => ?_)
                  refine value_ (w1 := ?_) (v := ?_) (by rfl) rfl ?_ ?_
                  rotate_left 2
                  · go_simp
                    constructor
                    · rfl
                    · rfl
                  refine hK.out _ _ ⟨zc HS 0, zc HS 1, zc HS 2⟩ (fun hHeld => ?_)
                  clear hK K
                  refine zn 76 ?_; refine zp0 13 77 ?_; refine zo0 14 78 (fun K hK => ?_)
                  refine zg Tryz.func38 #[.pointer (some ⟨b, 0, none⟩), .string (bSvc9 ++ pr ++ sp ++ nm ++ sp ++ ap)] ?_
                  refine (bld_str w2.heap.size b (o5 ++ ((a.f8.take j).map svcPart).flatten) (bSvc9 ++ pr ++ sp ++ nm ++ sp ++ ap) V4 HF.out.bld (svc_len HSZ.out HL.out) HF.out.bel.size).mono ?_
                  rintro e V5 ⟨rfl, hb1, hb2, hb3⟩
                  refine ⟨_, rfl, ?_⟩
                  have HF4 := Aside0.mk (HF.out.write hb1 hb2)
                  have HA4 := Aside0.mk (keepA HA.out HGA.out.1 hb3)
                  have HS4 := Aside0.mk (keepS HS.out HGS.out hb3)
                  clear hb1 hb2 hb3
                  replace HA := HA4
                  replace HF := HF4
                  replace HS := HS4
                  clear HA4 HF4 HS4
                  refine hK.out _ _ ⟨zc HS 0, zc HS 1, zc HS 2⟩ (fun hHeld => ?_)
                  clear hK K
                  refine zn 78 ?_; refine zd0 ?_
                  have HFL : Aside0 (FmtI w2 V5 b (o5 ++ ((a.f8.take (j + 1)).map svcPart).flatten)) := ⟨by rw [HTK.out, HSV.out, ← List.append_assoc]; exact HF.out⟩
                  have HJ1 : Aside0 ((a.f8.length - j) + (j + 1) = a.f8.length + 1 ∧ j + 1 ≤ a.f8.length) := ⟨by have := HJJ.out; omega, HJJ.out⟩
                  go_wp2
                  go_roundg (a.f8.length - j)
                  case measure => have := HJ.out.1; have := HJJ.out; omega
                  case rel => exact ⟨j + 1, by go_num, HJ1, HFL, HA⟩
              · have HJE : Aside0 (a.f8.take j = a.f8) := ⟨List.take_of_length_le (by omega)⟩
                have c2 : decide ((j : Int) < (a.f8.length : Int)) = false := decide_eq_false (by omega)
                have c2' : decide (j < a.f8.length) = false := decide_eq_false hj
                rw [HJE.out] at HF HL
                go_wp2_with fail
                refine (bld_str w2.heap.size b (o5 ++ (a.f8.map svcPart).flatten) ⟨#[59, 10]⟩ wr HF.out.bld (by have := HL.out; have : (⟨#[59, 10]⟩ : ByteArray).size = 2 := rfl; omega) HF.out.bel.size).mono ?_
                rintro e w10 ⟨rfl, hb1, hb2, hb3⟩
                have HF10 := Aside0.mk (HF.out.write hb1 hb2)
                clear hb1 hb2 hb3
                have HNEW : Aside0 (asset_Format.l0 k' l (i + 1) (o ++ linePart a fp) = some out ∧ i + 1 ≤ n ∧ (o ++ linePart a fp).length ≤ 30000 * (i + 1)) := ⟨HNX.out, HII.out, by rw [List.length_append]; have := HIL.out; have := line_size HFN.out HFS.out; omega⟩
                have HFL : Aside0 (FmtI w2 w10 b (o ++ linePart a fp)) := ⟨by have := HF10.out; rw [← HO5.out] at this; unfold linePart; simp only [List.append_assoc] at this ⊢; exact this⟩
                go_wp2
                go_roundg k'
                case measure => exact Nat.lt_succ_self k'
                case rel => exact ⟨i + 1, _, by go_num, HNEW, HFL⟩
        · have HE : Aside0 (o = out) := ⟨format_fin HI.out.1 (by rw [HN.out]; exact hi)⟩
          have b2 : decide ((i : Int) < (n : Int)) = false := decide_eq_false (by omega)
          have b2' : decide (i < n) = false := decide_eq_false hi
          go_wp2_with fail
          refine (bld_string w2.heap.size b o wr HF.out.bld HF.out.bel.size).mono ?_
          rintro e w4 ⟨rfl, hb4⟩
          have HB4 := Aside0.mk hb4
          clear hb4
          go_wp2
          go_ret
          exact ⟨by rw [HE.out]; rfl, below_then HB2.out HB2.out.size (HF.out.bel.trans HB4.out.2.1)⟩
    · rw [if_neg h100] at hr
      cases hr
  · rw [if_neg hz] at hr
    have hr3 := Option.some.inj hr
    subst hr3
    have b1 : (cv != 0) = true := bne_iff_ne.mpr hz
    clear hr hz hn
    go_enter Tryz.func14, Tryz.ntmps14
    go_wp2_with fail
    refine HCK.out.mono ?_
    rintro e w2 ⟨rfl, hb2⟩
    go_wp2
    go_ret
    exact ⟨rfl, hb2⟩
end Go.Proofs.YtnphnhkinjppjaaGreatDoor.Q
end

section
set_option maxHeartbeats 8000000
set_option maxRecDepth 100000
namespace Go.Proofs.YtnphnhkinjppjaaGreatDoor.Q
open Go.RowKit Go.Proofs.YtnphnhkinjppjaaGreatDoorW.PrintWords Go.Proofs.YtnphnhkinjppjaaGreatDoorW.PrintLast Go.Proofs.YtnphnhkinjppjaaGreatDoorW.PrintMore
attribute [local go_sem] max2_int min2_int max_two min_two max_three min_three max_four min_four
def r06_Number.l0 : Nat → Int → ByteArray → Option (ByteArray)
  | 0, _, _ => none
  | k + 1, x0, x3 => if x0 > 9 then ((some (([(wrap64 (48 + (Int.tmod x0 10))) % 256] : List Int) : List Int)).bind fun y320 => (if (strOfNums y320).size + x3.size ≤ 9223372036854775807 then (r06_Number.l0 k (wrap64 (Int.tdiv x0 10)) ((strOfNums y320) ++ x3)) else (none))) else ((some (([(wrap64 (48 + x0)) % 256] : List Int) : List Int)).bind fun y323 => (if (strOfNums y323).size + x3.size ≤ 9223372036854775807 then (some ((strOfNums y323) ++ x3)) else (none)))
def r06_Number.f (k : Nat) (a0 : Int) : Option (ByteArray) := r06_Number.l0 k a0 (⟨#[]⟩ : ByteArray)
theorem r06_Number.mono_l : ∀ k, (∀ y0 y1, LeO (r06_Number.l0 k y0 y1) (r06_Number.l0 (k + 1) y0 y1))
  | 0 => fun _ _ r h => by simp [r06_Number.l0] at h
  | k + 1 => by
    have ih0 := r06_Number.mono_l k
    · intro y0 y1
      unfold r06_Number.l0
      repeat' first
      | (with_reducible exact ih0 _ _)
      | (with_reducible exact LeO.refl _)
      | (with_reducible exact LeO.none _)
      | (with_reducible refine LeO.ite ?_ ?_)
      | (with_reducible refine LeO.bind ?_ (fun _ => ?_))
theorem r06_Number.mono : ∀ a0 k, LeO (r06_Number.f k a0) (r06_Number.f (k + 1) a0) := by
  intro a0 k
  have ih0 := r06_Number.mono_l k
  unfold r06_Number.f
  repeat' first
      | (with_reducible exact ih0 _ _)
      | (with_reducible exact LeO.refl _)
      | (with_reducible exact LeO.none _)
      | (with_reducible refine LeO.ite ?_ ?_)
      | (with_reducible refine LeO.bind ?_ (fun _ => ?_))
theorem r06_Number.calls (k : Nat) (a0 : Int) (r : ByteArray) (w : World) (h : r06_Number.f k a0 = some r) :
 Calls Tryz.prog 66 #[.int .i64 a0] w fun e w' => e = .returned (.string r) ∧ Below w.heap.size w w' := by
 have HB := Aside0.mk (Below.refl w.heap.size w)
 unfold r06_Number.f at h; have H := h
 clear h
 have H' := Aside0.mk H
 clear H
 go_enter Tryz.func66, Tryz.ntmps66
 go_wp2
 go_loopg [0, 3] k (fun kq v0 v3 w' => ∃ (x0_1 : Int) (x3_1 : ByteArray), v0 = .int .i64 x0_1 ∧ v3 = .string x3_1 ∧ Aside0 (r06_Number.l0 kq x0_1 x3_1 = some r) ∧ Aside0 (kq ≤ k) ∧ Aside0 (Below w.heap.size w w'))
 case atStart => exact ⟨(a0), ((⟨#[]⟩ : ByteArray)), zI, zI, H', ⟨Nat.le_refl _⟩, ⟨zB HB⟩⟩
 case round =>
  clear H'
  obtain ⟨x0_1, x3_1, rfl, rfl, HA, HK1, HB⟩ := hrel
  rcases gk with _ | k1
  · exact absurd HA.out (by simp [r06_Number.l0])
  have H := HA.out
  clear HA
  simp only [r06_Number.l0] at H
  by_cases c2 : x0_1 > 9
  · rw [if_pos c2] at H
    have c2b0 : decide (9 < x0_1) = true := decide_eq_true c2; clear c2
    obtain ⟨y320, hy320⟩ : ∃ y_ : List Int, y_ = (([(wrap64 (48 + (Int.tmod x0_1 10))) % 256] : List Int)) := ⟨_, rfl⟩
    rw [← hy320] at H; try dsimp only [Option.bind_some] at H
    have Ny320 := Aside0.mk hy320; clear hy320
    by_cases c3 : (strOfNums y320).size + x3_1.size ≤ 9223372036854775807
    · rw [if_pos c3] at H
      have c3b0 := eq_true c3
      have c3b1 : decide ((strOfNums y320).size + x3_1.size ≤ 9223372036854775807) = true := decide_eq_true c3
      try have c3b2 : (9223372036854775807 < (strOfNums y320).size + x3_1.size) = False := eq_false (Nat.not_lt.2 c3)
      have H' := Aside0.mk H
      clear H
      go_wp2_with (first | ((with_reducible refine gate_dst (N := 10) rfl ?_); refine Kd.R_lit (Kd.int .u8) _ 5 ?hg (N := 10) ?hd (xs := ([(wrap64 (48 + (Int.tmod x0_1 10))) % 256] : List Int)) (inner := [.int .u8 ((wrap64 (48 + (Int.tmod x0_1 10))) % 256)]) (ok := fun _ => True) (okp := fun _ => True) ?hr ?hp (fun _ hk => hk) trivial (Below.refl _ _) (Nat.le_refl _) (by simp) ?_; (case hd => rfl); (case hg => rfl); (case hr => first | (go_simp; done) | (go_simp; rfl)); (case hp => exact (Reps.one (show Kd.M (Kd.int .u8) _ _ _ ((wrap64 (48 + (Int.tmod x0_1 10))) % 256) [.int .u8 ((wrap64 (48 + (Int.tmod x0_1 10))) % 256)] from rfl) (Reps.none _ _))); intro v321 w4 ho5 hb hg_ hnew_; clear hg_ hnew_; (first | rw [← Ny320.out] at ho5 | (simp only [Int.reduceToNat] at ho5; rw [← Ny320.out] at ho5)); have HO322 := Aside0.mk (Kd.R_lower ho5 (below_size (zB HB))); replace HB := Aside0.mk (below_step (zB HB) hb); clear hb ho5; have hcv6 := own_string (P := Tryz.prog) Tryz.underlying60 Tryz.underlying5 Tryz.underlying9 (Kd.own_of_R HO322.out)))
      go_roundg k1
      case measure => have := HK1.out; omega
      case rel => exact ⟨(wrap64 (Int.tdiv x0_1 10)), ((strOfNums y320) ++ x3_1), zI, zI, H', ⟨by have := HK1.out; omega⟩, ⟨zB HB⟩⟩
    rw [if_neg c3] at H
    exact absurd H (by simp)
  rw [if_neg c2] at H
  have c2b0 : decide (9 < x0_1) = false := decide_eq_false c2; clear c2
  obtain ⟨y323, hy323⟩ : ∃ y_ : List Int, y_ = (([(wrap64 (48 + x0_1)) % 256] : List Int)) := ⟨_, rfl⟩
  rw [← hy323] at H; try dsimp only [Option.bind_some] at H
  have Ny323 := Aside0.mk hy323; clear hy323
  by_cases c7 : (strOfNums y323).size + x3_1.size ≤ 9223372036854775807
  · rw [if_pos c7] at H
    have c7b0 := eq_true c7
    have c7b1 : decide ((strOfNums y323).size + x3_1.size ≤ 9223372036854775807) = true := decide_eq_true c7
    try have c7b2 : (9223372036854775807 < (strOfNums y323).size + x3_1.size) = False := eq_false (Nat.not_lt.2 c7)
    obtain rfl := Option.some.inj H
    go_wp2_with (first | ((with_reducible refine gate_dst (N := 19) rfl ?_); refine Kd.R_lit (Kd.int .u8) _ 5 ?hg (N := 19) ?hd (xs := ([(wrap64 (48 + x0_1)) % 256] : List Int)) (inner := [.int .u8 ((wrap64 (48 + x0_1)) % 256)]) (ok := fun _ => True) (okp := fun _ => True) ?hr ?hp (fun _ hk => hk) trivial (Below.refl _ _) (Nat.le_refl _) (by simp) ?_; (case hd => rfl); (case hg => rfl); (case hr => first | (go_simp; done) | (go_simp; rfl)); (case hp => exact (Reps.one (show Kd.M (Kd.int .u8) _ _ _ ((wrap64 (48 + x0_1)) % 256) [.int .u8 ((wrap64 (48 + x0_1)) % 256)] from rfl) (Reps.none _ _))); intro v324 w8 ho9 hb hg_ hnew_; clear hg_ hnew_; (first | rw [← Ny323.out] at ho9 | (simp only [Int.reduceToNat] at ho9; rw [← Ny323.out] at ho9)); have HO325 := Aside0.mk (Kd.R_lower ho9 (below_size (zB HB))); replace HB := Aside0.mk (below_step (zB HB) hb); clear hb ho9; have hcv10 := own_string (P := Tryz.prog) Tryz.underlying60 Tryz.underlying5 Tryz.underlying9 (Kd.own_of_R HO325.out)))
    go_ret
    exact ⟨zr, zB HB⟩
  rw [if_neg c7] at H
  exact absurd H (by simp)
end Go.Proofs.YtnphnhkinjppjaaGreatDoor.Q
end

section
set_option maxHeartbeats 8000000
set_option maxRecDepth 100000
namespace Go.Proofs.YtnphnhkinjppjaaGreatDoor.Q
open Go.RowKit Go.Proofs.YtnphnhkinjppjaaGreatDoorW.PrintWords Go.Proofs.YtnphnhkinjppjaaGreatDoorW.PrintLast Go.Proofs.YtnphnhkinjppjaaGreatDoorW.PrintMore
attribute [local go_sem] max2_int min2_int max_two min_two max_three min_three max_four min_four
mutual
def r06_Groups.l0 : Nat → List Int → Int → Bool → Int → Int → Option (List Int)
  | 0, _, _, _, _, _ => none
  | k + 1, x3, x4, x327000, x327001, x327002 => if x4 ≥ 0 then (if 0 ≤ (IntKind.u64.wrap (wrap64 (16 * x4))) then (if x3.length < 17592186044416 then (r06_Groups.l0 k (x3 ++ [wrap64 (Go.bits .and .u64 (shr .u64 x327001 (IntKind.u64.wrap (wrap64 (16 * x4)))) 65535)]) (wrap64 (x4 - 1)) x327000 x327001 x327002) else (none)) else (none)) else (r06_Groups.l1 k x3 3 x327000 x327001 x327002)
def r06_Groups.l1 : Nat → List Int → Int → Bool → Int → Int → Option (List Int)
  | 0, _, _, _, _, _ => none
  | k + 1, x3, x5, x327000, x327001, x327002 => if x5 ≥ 0 then (if 0 ≤ (IntKind.u64.wrap (wrap64 (16 * x5))) then (if x3.length < 17592186044416 then (r06_Groups.l1 k (x3 ++ [wrap64 (Go.bits .and .u64 (shr .u64 x327002 (IntKind.u64.wrap (wrap64 (16 * x5)))) 65535)]) (wrap64 (x5 - 1)) x327000 x327001 x327002) else (none)) else (none)) else (some x3)
end
def r06_Groups.f (k : Nat) (a0_0 : Bool) (a0_1 : Int) (a0_2 : Int) : Option (List Int) := r06_Groups.l0 k ([] : List Int) 3 a0_0 a0_1 a0_2
theorem r06_Groups.mono_l : ∀ k, (∀ y0 y1 y2 y3 y4, LeO (r06_Groups.l0 k y0 y1 y2 y3 y4) (r06_Groups.l0 (k + 1) y0 y1 y2 y3 y4)) ∧ (∀ y0 y1 y2 y3 y4, LeO (r06_Groups.l1 k y0 y1 y2 y3 y4) (r06_Groups.l1 (k + 1) y0 y1 y2 y3 y4))
  | 0 => ⟨fun _ _ _ _ _ r h => by simp [r06_Groups.l0] at h, fun _ _ _ _ _ r h => by simp [r06_Groups.l1] at h⟩
  | k + 1 => by
    obtain ⟨ih0, ih1⟩ := r06_Groups.mono_l k
    refine ⟨?_, ?_⟩
    · intro y0 y1 y2 y3 y4
      unfold r06_Groups.l0
      repeat' first
      | (with_reducible exact ih0 _ _ _ _ _)
      | (with_reducible exact ih1 _ _ _ _ _)
      | (with_reducible exact LeO.refl _)
      | (with_reducible exact LeO.none _)
      | (with_reducible refine LeO.ite ?_ ?_)
      | (with_reducible refine LeO.bind ?_ (fun _ => ?_))
    · intro y0 y1 y2 y3 y4
      unfold r06_Groups.l1
      repeat' first
      | (with_reducible exact ih0 _ _ _ _ _)
      | (with_reducible exact ih1 _ _ _ _ _)
      | (with_reducible exact LeO.refl _)
      | (with_reducible exact LeO.none _)
      | (with_reducible refine LeO.ite ?_ ?_)
      | (with_reducible refine LeO.bind ?_ (fun _ => ?_))
theorem r06_Groups.mono : ∀ a0 a1 a2 k, LeO (r06_Groups.f k a0 a1 a2) (r06_Groups.f (k + 1) a0 a1 a2) := by
  intro a0 a1 a2 k
  obtain ⟨ih0, ih1⟩ := r06_Groups.mono_l k
  unfold r06_Groups.f
  repeat' first
      | (with_reducible exact ih0 _ _ _ _ _)
      | (with_reducible exact ih1 _ _ _ _ _)
      | (with_reducible exact LeO.refl _)
      | (with_reducible exact LeO.none _)
      | (with_reducible refine LeO.ite ?_ ?_)
      | (with_reducible refine LeO.bind ?_ (fun _ => ?_))
theorem r06_Groups.calls (k : Nat) (a0_0 : Bool) (a0_1 : Int) (a0_2 : Int) (r : List Int) (w : World) (h : r06_Groups.f k a0_0 a0_1 a0_2 = some r) :
 Calls Tryz.prog 125 #[.agg #[.bool a0_0, .int .u64 a0_1, .int .u64 a0_2]] w fun e w' => ∃ v0_ : Value, e = .returned (v0_) ∧ Kd.R (Kd.int .i64) 3 w' w.heap.size (fun _ => True) v0_ r ∧ Below w.heap.size w w' := by
 have hu31 := Tryz.underlying31
 have HB := Aside0.mk (Below.refl w.heap.size w)
 unfold r06_Groups.f at h; have H := h
 clear h
 have H' := Aside0.mk H
 clear H
 go_enter Tryz.func125, Tryz.ntmps125
 go_wp2_with (first | ((with_reducible refine gate_dst (N := 1) rfl ?_); refine zx 1 #[.bool a0_0, .int .u64 a0_1, .int .u64 a0_2] 31 ?_; intro gb326 hg w2 hbox hb; have BK326 := Aside0.mk (hbox); have GW326 := zG HB hg; have GE326 := zG HB hg; replace HB := Aside0.mk (below_step (zB HB) hb); clear hb hbox hg))
 go_loopg [3, 4] k (fun kq v3 v4 w' => ∃ (x3_1 : List Int) (x4_1 : Int), v4 = .int .i64 x4_1 ∧ Aside0 (r06_Groups.l0 kq x3_1 x4_1 a0_0 a0_1 a0_2 = some r) ∧ Aside0 (kq ≤ k) ∧ Aside0 (Kd.R (Kd.int .i64) 3 w' w.heap.size (fun _ => True) v3 x3_1) ∧ Aside0 (w'.heap[gb326]? = some (.cells #[.bool a0_0, .int .u64 a0_1, .int .u64 a0_2] 31 (0, 0))) ∧ Aside0 (Below w.heap.size w w'))
 case atStart => exact ⟨(([] : List Int)), (3), zI, H', ⟨Nat.le_refl _⟩, ⟨by first | exact Kd.R_nil _ _ _ _ _ | exact Kd.N_nil _ _ _ _ _ | exact Kd.V_nil _ _ _ _ _ | exact Kd.Q_nil _ _ _ _ _ | exact Kd.S_nil _ _ _ _ _⟩, ⟨zK BK326⟩, ⟨zB HB⟩⟩
 case round =>
  clear H'
  obtain ⟨x3_1, x4_1, rfl, HA, HK1, HO_3, BK326, HB⟩ := hrel
  rcases gk with _ | k1
  · exact absurd HA.out (by simp [r06_Groups.l0])
  have H := HA.out
  clear HA
  simp only [r06_Groups.l0] at H
  by_cases c3 : x4_1 ≥ 0
  · rw [if_pos c3] at H
    have c3b0 : decide (0 ≤ x4_1) = true := decide_eq_true c3; clear c3
    obtain ⟨ji4, hji4⟩ : ∃ j_ : Int, (IntKind.u64.wrap (wrap64 (16 * x4_1))) = j_ := ⟨_, rfl⟩
    replace H : (if 0 ≤ (ji4) then (if x3_1.length < 17592186044416 then (r06_Groups.l0 k1 (x3_1 ++ [wrap64 (Go.bits .and .u64 (shr .u64 a0_1 (ji4)) 65535)]) (wrap64 (x4_1 - 1)) a0_0 a0_1 a0_2) else (none)) else (none)) = some r := by first | (rw [hji4] at H; exact H) | (simp only [hji4] at H ⊢; exact H)
    by_cases c5 : 0 ≤ (ji4)
    rotate_left
    · rw [if_neg c5] at H
      exact absurd H (by simp)
    rw [if_pos c5] at H
    have c5b0 := eq_true c5
    have c5b1 : decide (0 ≤ (ji4)) = true := decide_eq_true c5; clear c5
    obtain ⟨ji6, hji6⟩ : ∃ j_ : Int, (shr .u64 a0_1 (ji4)) = j_ := ⟨_, rfl⟩
    replace H : (if x3_1.length < 17592186044416 then (r06_Groups.l0 k1 (x3_1 ++ [wrap64 (Go.bits .and .u64 (ji6) 65535)]) (wrap64 (x4_1 - 1)) a0_0 a0_1 a0_2) else (none)) = some r := by first | (rw [hji6] at H; exact H) | (simp only [hji6] at H ⊢; exact H)
    have hji6_ : (a0_1 / 2 ^ min (ji4).toNat 64) = ji6 := hji6
    have hji6z : (ji4) ≤ 64 → (a0_1 / 2 ^ (ji4).toNat) = ji6 := shr_small hji6
    by_cases c7 : x3_1.length < 17592186044416
    · rw [if_pos c7] at H
      have LMc7 := Aside0.mk c7; clear c7
      obtain ⟨y327, hy327⟩ : ∃ y_ : List Int, y_ = (x3_1 ++ [wrap64 (Go.bits .and .u64 (ji6) 65535)]) := ⟨_, rfl⟩
      rw [← hy327] at H; try dsimp only [Option.bind_some] at H
      have Ny327 := Aside0.mk hy327; clear hy327
      have H' := Aside0.mk H
      clear H; obtain ⟨hcz8_0, hcz8_1, hcz8_2⟩ := zc3 BK326; obtain ⟨hfz8_0, hfz8_1, hfz8_2⟩ := zf3 BK326
      go_wp2_with (first | ((with_reducible refine gate_builtin (b := .append) (xs := #[.tmp 10, .tmp 19]) rfl ?_); at_builtin; refine Kd.R_append (Kd.int .i64) (w0 := w) w.heap.size rfl (.tmp 10) (.tmp 19) 152 3 (.int .i64 0) 8 rfl Tryz.underlying152 info3 rfl (by decide) (by omega) u3 x3_1 (wrap64 (Go.bits .and .u64 (ji6) 65535)) [.int .i64 (wrap64 (Go.bits .and .u64 (ji6) 65535))] (fun _ => True) (fun _ => False) rfl rfl ?aP (fun _ hk => hk.elim) ?aF ?aO ?aB ?aS ?aL ?_; (case aP => exact rfl); (case aB => exact (zB HB)); (case aF => exact (fun _ _ => trivial)); (case aO => exact (zR HO_3)); (case aS => exact (below_size (zB HB))); (case aL => have := LMc7.out; omega); intro v328 w9 ho hb hg hat; rw [← Ny327.out] at ho; replace BK326 := Aside0.mk (blk_grown (g := gb326) (o := .cells #[.bool a0_0, .int .u64 a0_1, .int .u64 a0_2] 31 (0, 0)) (zK BK326) hg (Kd.R_ne HO_3.out BK326.out (by decide))); replace HB := Aside0.mk (hb); have HO329 := Aside0.mk (ho); clear HO_3; clear ho hb hg hat))
      go_roundg k1
      case measure => have := HK1.out; omega
      case rel => exact ⟨(y327), (wrap64 (x4_1 - 1)), zI, H', ⟨by have := HK1.out; omega⟩, ⟨zR HO329⟩, ⟨zK BK326⟩, ⟨zB HB⟩⟩
    rw [if_neg c7] at H
    exact absurd H (by simp)
  rw [if_neg c3] at H
  have c3b0 : decide (0 ≤ x4_1) = false := decide_eq_false c3; clear c3
  have H' := Aside0.mk H
  clear H
  go_wp2
  go_loopg [3, 5] k1 (fun kq v3 v5 w' => ∃ (x3_2 : List Int) (x5_2 : Int), v5 = .int .i64 x5_2 ∧ Aside0 (r06_Groups.l1 kq x3_2 x5_2 a0_0 a0_1 a0_2 = some r) ∧ Aside0 (kq ≤ k1) ∧ Aside0 (Kd.R (Kd.int .i64) 3 w' w.heap.size (fun _ => True) v3 x3_2) ∧ Aside0 (w'.heap[gb326]? = some (.cells #[.bool a0_0, .int .u64 a0_1, .int .u64 a0_2] 31 (0, 0))) ∧ Aside0 (Below w.heap.size w w'))
  case atStart => exact ⟨(x3_1), (3), zI, H', ⟨Nat.le_refl _⟩, ⟨zR HO_3⟩, ⟨zK BK326⟩, ⟨zB HB⟩⟩
  case round =>
   clear H'
   (try clear c3); (try clear c3b0)
   obtain ⟨x3_2, x5_2, rfl, HA, HK2, HO_3, BK326, HB⟩ := hrel
   rcases gk with _ | k2
   · exact absurd HA.out (by simp [r06_Groups.l1])
   have H := HA.out
   clear HA
   simp only [r06_Groups.l1] at H
   by_cases c10 : x5_2 ≥ 0
   rotate_left
   · rw [if_neg c10] at H
     have c10b0 : decide (0 ≤ x5_2) = false := decide_eq_false c10; clear c10
     obtain rfl := Option.some.inj H
     go_wp2
     go_ret
     exact ⟨_, by first | rfl | (simp [errW_none, errW_some] <;> rfl) | (simp [*, errW_none, errW_some] <;> rfl), by (with_reducible repeat (first | apply Kd.R_alloc | apply Kd.R_drewN | apply Kd.R_drew)); exact HO_3.out, by repeat (first | (with_reducible first | exact HB.out | apply below_alloc | apply pw_below_drewN | apply below_drew1 | refine below_set ?_ GE326.out) | exact HB.out)⟩
   rw [if_pos c10] at H
   have c10b0 : decide (0 ≤ x5_2) = true := decide_eq_true c10; clear c10
   obtain ⟨ji11, hji11⟩ : ∃ j_ : Int, (IntKind.u64.wrap (wrap64 (16 * x5_2))) = j_ := ⟨_, rfl⟩
   replace H : (if 0 ≤ (ji11) then (if x3_2.length < 17592186044416 then (r06_Groups.l1 k2 (x3_2 ++ [wrap64 (Go.bits .and .u64 (shr .u64 a0_2 (ji11)) 65535)]) (wrap64 (x5_2 - 1)) a0_0 a0_1 a0_2) else (none)) else (none)) = some r := by first | (rw [hji11] at H; exact H) | (simp only [hji11] at H ⊢; exact H)
   by_cases c12 : 0 ≤ (ji11)
   rotate_left
   · rw [if_neg c12] at H
     exact absurd H (by simp)
   rw [if_pos c12] at H
   have c12b0 := eq_true c12
   have c12b1 : decide (0 ≤ (ji11)) = true := decide_eq_true c12; clear c12
   obtain ⟨ji13, hji13⟩ : ∃ j_ : Int, (shr .u64 a0_2 (ji11)) = j_ := ⟨_, rfl⟩
   replace H : (if x3_2.length < 17592186044416 then (r06_Groups.l1 k2 (x3_2 ++ [wrap64 (Go.bits .and .u64 (ji13) 65535)]) (wrap64 (x5_2 - 1)) a0_0 a0_1 a0_2) else (none)) = some r := by first | (rw [hji13] at H; exact H) | (simp only [hji13] at H ⊢; exact H)
   have hji13_ : (a0_2 / 2 ^ min (ji11).toNat 64) = ji13 := hji13
   have hji13z : (ji11) ≤ 64 → (a0_2 / 2 ^ (ji11).toNat) = ji13 := shr_small hji13
   by_cases c14 : x3_2.length < 17592186044416
   · rw [if_pos c14] at H
     have LMc14 := Aside0.mk c14; clear c14
     obtain ⟨y330, hy330⟩ : ∃ y_ : List Int, y_ = (x3_2 ++ [wrap64 (Go.bits .and .u64 (ji13) 65535)]) := ⟨_, rfl⟩
     rw [← hy330] at H; try dsimp only [Option.bind_some] at H
     have Ny330 := Aside0.mk hy330; clear hy330
     have H' := Aside0.mk H
     clear H; obtain ⟨hcz15_0, hcz15_1, hcz15_2⟩ := zc3 BK326; obtain ⟨hfz15_0, hfz15_1, hfz15_2⟩ := zf3 BK326
     go_wp2_with (first | ((with_reducible refine gate_builtin (b := .append) (xs := #[.tmp 25, .tmp 34]) rfl ?_); at_builtin; refine Kd.R_append (Kd.int .i64) (w0 := w) w.heap.size rfl (.tmp 25) (.tmp 34) 152 3 (.int .i64 0) 8 rfl Tryz.underlying152 info3 rfl (by decide) (by omega) u3 x3_2 (wrap64 (Go.bits .and .u64 (ji13) 65535)) [.int .i64 (wrap64 (Go.bits .and .u64 (ji13) 65535))] (fun _ => True) (fun _ => False) rfl rfl ?aP (fun _ hk => hk.elim) ?aF ?aO ?aB ?aS ?aL ?_; (case aP => exact rfl); (case aB => exact (zB HB)); (case aF => exact (fun _ _ => trivial)); (case aO => exact (zR HO_3)); (case aS => exact (below_size (zB HB))); (case aL => have := LMc14.out; omega); intro v331 w16 ho hb hg hat; rw [← Ny330.out] at ho; replace BK326 := Aside0.mk (blk_grown (g := gb326) (o := .cells #[.bool a0_0, .int .u64 a0_1, .int .u64 a0_2] 31 (0, 0)) (zK BK326) hg (Kd.R_ne HO_3.out BK326.out (by decide))); replace HB := Aside0.mk (hb); have HO332 := Aside0.mk (ho); clear HO_3; clear ho hb hg hat))
     go_roundg k2
     case measure => have := HK1.out; have := HK2.out; omega
     case rel => exact ⟨(y330), (wrap64 (x5_2 - 1)), zI, H', ⟨by have := HK1.out; have := HK2.out; omega⟩, ⟨zR HO332⟩, ⟨zK BK326⟩, ⟨zB HB⟩⟩
   rw [if_neg c14] at H
   exact absurd H (by simp)
def r06_run.l0 : Nat → List Int → Int → Int → Option (Int)
  | 0, _, _, _ => none
  | k + 1, x0, x1, x5 => if (wrap64 (x1 + x5)) < (x0.length : Int) then (if 0 ≤ (wrap64 (x1 + x5)) then (if (rd x0 (wrap64 (x1 + x5))) = 0 then (r06_run.l0 k x0 x1 (wrap64 (x5 + 1))) else (some x5)) else (none)) else (some x5)
def r06_run.f (k : Nat) (l0 : List Int) (a1 : Int) : Option (Int) := r06_run.l0 k l0 a1 0
theorem r06_run.mono_l : ∀ k, (∀ y0 y1 y2, LeO (r06_run.l0 k y0 y1 y2) (r06_run.l0 (k + 1) y0 y1 y2))
  | 0 => fun _ _ _ r h => by simp [r06_run.l0] at h
  | k + 1 => by
    have ih0 := r06_run.mono_l k
    · intro y0 y1 y2
      unfold r06_run.l0
      repeat' first
      | (with_reducible exact ih0 _ _ _)
      | (with_reducible exact LeO.refl _)
      | (with_reducible exact LeO.none _)
      | (with_reducible refine LeO.ite ?_ ?_)
      | (with_reducible refine LeO.bind ?_ (fun _ => ?_))
theorem r06_run.mono : ∀ a0 a1 k, LeO (r06_run.f k a0 a1) (r06_run.f (k + 1) a0 a1) := by
  intro a0 a1 k
  have ih0 := r06_run.mono_l k
  unfold r06_run.f
  repeat' first
      | (with_reducible exact ih0 _ _ _)
      | (with_reducible exact LeO.refl _)
      | (with_reducible exact LeO.none _)
      | (with_reducible refine LeO.ite ?_ ?_)
      | (with_reducible refine LeO.bind ?_ (fun _ => ?_))
theorem r06_run.calls (k : Nat) (A0 : Option Addr) (c0 : Nat) (l0 : List Int) (a1 : Int) (r : Int) (w : World) (hr0 : Kd.C (Kd.int .i64) w A0 l0.length l0) (hc0 : l0.length ≤ c0) (h : r06_run.f k l0 a1 = some r) :
 Calls Tryz.prog 126 #[.slice A0 l0.length c0, .int .i64 a1] w fun e w' => e = .returned (.int .i64 r) ∧ Drawn0 w w' := by
 have HR0 := Aside0.mk hr0; have HC0 := Aside0.mk hc0; clear hr0 hc0
 unfold r06_run.f at h; have H := h
 clear h
 have H' := Aside0.mk H
 clear H
 go_enter Tryz.func126, Tryz.ntmps126
 go_wp2
 go_loopg [5] k (fun kq v5 w' => ∃ (x5_1 : Int), v5 = .int .i64 x5_1 ∧ Aside0 (r06_run.l0 kq l0 a1 x5_1 = some r) ∧ Aside0 (kq ≤ k) ∧ Drawn0 w w')
 case atStart => exact ⟨(0), zI, H', ⟨Nat.le_refl _⟩, by repeat (first | exact Drawn0.refl _ | apply Drawn0.step)⟩
 case round =>
  clear H'
  obtain ⟨x5_1, rfl, HA, HK1, ⟨m1, rfl⟩⟩ := hrel
  rcases gk with _ | k1
  · exact absurd HA.out (by simp [r06_run.l0])
  have H := HA.out
  clear HA
  simp only [r06_run.l0] at H
  by_cases c3 : (wrap64 (a1 + x5_1)) < (l0.length : Int)
  rotate_left
  · rw [if_neg c3] at H
    have c3b0 : decide ((wrap64 (a1 + x5_1)) < (l0.length : Int)) = false := decide_eq_false c3; clear c3
    obtain rfl := Option.some.inj H
    go_wp2
    go_ret
    exact ⟨by first | rfl | (simp; done) | (simp [*]; done), by repeat (first | exact Drawn0.refl _ | apply Drawn0.step)⟩
  rw [if_pos c3] at H
  have c3b0 : decide ((wrap64 (a1 + x5_1)) < (l0.length : Int)) = true := decide_eq_true c3; clear c3
  obtain ⟨ji4, hji4⟩ : ∃ j_ : Int, (wrap64 (a1 + x5_1)) = j_ := ⟨_, rfl⟩
  replace H : (if 0 ≤ (ji4) then (if (rd l0 (ji4)) = 0 then (r06_run.l0 k1 l0 a1 (wrap64 (x5_1 + 1))) else (some x5_1)) else (none)) = some r := by first | (rw [hji4] at H; exact H) | (simp only [hji4] at H ⊢; exact H)
  (try rw [hji4] at c3b0)
  have hji4w : (IntKind.i64.wrap (a1 + x5_1)) = ji4 := (i64_w _).trans hji4
  by_cases c5 : 0 ≤ (ji4)
  rotate_left
  · rw [if_neg c5] at H
    exact absurd H (by simp)
  rw [if_pos c5] at H
  have c5b0 : decide (0 ≤ (ji4)) = true := decide_eq_true c5; clear c5
  by_cases c6 : (rd l0 (ji4)) = 0
  · rw [if_pos c6] at H
    have c6b0 : ((rd l0 (ji4)) == 0) = true := beq_iff_eq.mpr c6; have c6b1 : ((rd l0 (ji4)) != 0) = false := bne_eq_false_iff_eq.mpr c6; clear c6
    have H' := Aside0.mk H
    clear H
    have p333 : 0 ≤ ((ji4) : Int) := za
    have q333 : (ji4) < (l0.length : Int) := za
    obtain ⟨ad333, e333, hx333_0⟩ := Kd.at_int HR0.out (ji4) p333 q333
    cases e333
    replace p333 := eq_true p333
    replace q333 := eq_true q333
    go_wp2
    go_roundg k1
    case measure => have := HK1.out; omega
    case rel => exact ⟨(wrap64 (x5_1 + 1)), zI, H', ⟨by have := HK1.out; omega⟩, by repeat (first | exact Drawn0.refl _ | apply Drawn0.step)⟩
  rw [if_neg c6] at H
  have c6b0 : ((rd l0 (ji4)) == 0) = false := beq_eq_false_iff_ne.mpr c6
  have c6b1 : ((rd l0 (ji4)) != 0) = true := bne_iff_ne.mpr c6
  obtain rfl := Option.some.inj H
  have p333 : 0 ≤ ((ji4) : Int) := za
  have q333 : (ji4) < (l0.length : Int) := za
  obtain ⟨ad333, e333, hx333_0⟩ := Kd.at_int HR0.out (ji4) p333 q333
  cases e333
  replace p333 := eq_true p333
  replace q333 := eq_true q333
  go_wp2
  go_ret
  exact ⟨by first | rfl | (simp; done) | (simp only [← hji4] <;> (first | rfl | simp)) | (simp [*]; done), by repeat (first | exact Drawn0.refl _ | apply Drawn0.step)⟩
def r06_hex.l0 : Nat → Int → ByteArray → Option (ByteArray)
  | 0, _, _ => none
  | k + 1, x0, x3 => if x0 > 15 then (if 0 ≤ (Int.tmod x0 16) then (if (Int.tmod x0 16) ≤ (wrap64 ((Int.tmod x0 16) + 1)) then (if (wrap64 ((Int.tmod x0 16) + 1)) ≤ 16 then (if ((⟨#[48, 49, 50, 51, 52, 53, 54, 55, 56, 57, 97, 98, 99, 100, 101, 102]⟩ : ByteArray).extract ((Int.tmod x0 16) : Int).toNat ((wrap64 ((Int.tmod x0 16) + 1)) : Int).toNat).size + x3.size ≤ 9223372036854775807 then (r06_hex.l0 k (wrap64 (Int.tdiv x0 16)) (((⟨#[48, 49, 50, 51, 52, 53, 54, 55, 56, 57, 97, 98, 99, 100, 101, 102]⟩ : ByteArray).extract ((Int.tmod x0 16) : Int).toNat ((wrap64 ((Int.tmod x0 16) + 1)) : Int).toNat) ++ x3)) else (none)) else (none)) else (none)) else (none)) else (if 0 ≤ x0 then (if x0 ≤ (wrap64 (x0 + 1)) then (if (wrap64 (x0 + 1)) ≤ 16 then (if ((⟨#[48, 49, 50, 51, 52, 53, 54, 55, 56, 57, 97, 98, 99, 100, 101, 102]⟩ : ByteArray).extract (x0 : Int).toNat ((wrap64 (x0 + 1)) : Int).toNat).size + x3.size ≤ 9223372036854775807 then (some (((⟨#[48, 49, 50, 51, 52, 53, 54, 55, 56, 57, 97, 98, 99, 100, 101, 102]⟩ : ByteArray).extract (x0 : Int).toNat ((wrap64 (x0 + 1)) : Int).toNat) ++ x3)) else (none)) else (none)) else (none)) else (none))
def r06_hex.f (k : Nat) (a0 : Int) : Option (ByteArray) := r06_hex.l0 k a0 (⟨#[]⟩ : ByteArray)
theorem r06_hex.mono_l : ∀ k, (∀ y0 y1, LeO (r06_hex.l0 k y0 y1) (r06_hex.l0 (k + 1) y0 y1))
  | 0 => fun _ _ r h => by simp [r06_hex.l0] at h
  | k + 1 => by
    have ih0 := r06_hex.mono_l k
    · intro y0 y1
      unfold r06_hex.l0
      repeat' first
      | (with_reducible exact ih0 _ _)
      | (with_reducible exact LeO.refl _)
      | (with_reducible exact LeO.none _)
      | (with_reducible refine LeO.ite ?_ ?_)
      | (with_reducible refine LeO.bind ?_ (fun _ => ?_))
theorem r06_hex.mono : ∀ a0 k, LeO (r06_hex.f k a0) (r06_hex.f (k + 1) a0) := by
  intro a0 k
  have ih0 := r06_hex.mono_l k
  unfold r06_hex.f
  repeat' first
      | (with_reducible exact ih0 _ _)
      | (with_reducible exact LeO.refl _)
      | (with_reducible exact LeO.none _)
      | (with_reducible refine LeO.ite ?_ ?_)
      | (with_reducible refine LeO.bind ?_ (fun _ => ?_))
theorem r06_hex.calls (k : Nat) (a0 : Int) (r : ByteArray) (w : World) (h : r06_hex.f k a0 = some r) :
 Calls Tryz.prog 127 #[.int .i64 a0] w fun e w' => e = .returned (.string r) ∧ Drawn0 w w' := by
 unfold r06_hex.f at h; have H := h
 clear h
 have H' := Aside0.mk H
 clear H
 go_enter Tryz.func127, Tryz.ntmps127
 go_wp2
 go_loopg [0, 3] k (fun kq v0 v3 w' => ∃ (x0_1 : Int) (x3_1 : ByteArray), v0 = .int .i64 x0_1 ∧ v3 = .string x3_1 ∧ Aside0 (r06_hex.l0 kq x0_1 x3_1 = some r) ∧ Aside0 (kq ≤ k) ∧ Drawn0 w w')
 case atStart => exact ⟨(a0), ((⟨#[]⟩ : ByteArray)), zI, zI, H', ⟨Nat.le_refl _⟩, by repeat (first | exact Drawn0.refl _ | apply Drawn0.step)⟩
 case round =>
  clear H'
  obtain ⟨x0_1, x3_1, rfl, rfl, HA, HK1, ⟨m1, rfl⟩⟩ := hrel
  rcases gk with _ | k1
  · exact absurd HA.out (by simp [r06_hex.l0])
  have H := HA.out
  clear HA
  simp only [r06_hex.l0] at H
  by_cases c2 : x0_1 > 15
  · rw [if_pos c2] at H
    have c2b0 : decide (15 < x0_1) = true := decide_eq_true c2; clear c2
    obtain ⟨ji3, hji3⟩ : ∃ j_ : Int, (Int.tmod x0_1 16) = j_ := ⟨_, rfl⟩
    replace H : (if 0 ≤ (ji3) then (if (ji3) ≤ (wrap64 ((ji3) + 1)) then (if (wrap64 ((ji3) + 1)) ≤ 16 then (if ((⟨#[48, 49, 50, 51, 52, 53, 54, 55, 56, 57, 97, 98, 99, 100, 101, 102]⟩ : ByteArray).extract ((ji3) : Int).toNat ((wrap64 ((ji3) + 1)) : Int).toNat).size + x3_1.size ≤ 9223372036854775807 then (r06_hex.l0 k1 (wrap64 (Int.tdiv x0_1 16)) (((⟨#[48, 49, 50, 51, 52, 53, 54, 55, 56, 57, 97, 98, 99, 100, 101, 102]⟩ : ByteArray).extract ((ji3) : Int).toNat ((wrap64 ((ji3) + 1)) : Int).toNat) ++ x3_1)) else (none)) else (none)) else (none)) else (none)) = some r := by first | (rw [hji3] at H; exact H) | (simp only [hji3] at H ⊢; exact H)
    by_cases c4 : 0 ≤ (ji3)
    rotate_left
    · rw [if_neg c4] at H
      exact absurd H (by simp)
    rw [if_pos c4] at H
    have c4b0 := eq_true c4
    have c4b1 : decide (0 ≤ (ji3)) = true := decide_eq_true c4; clear c4
    by_cases c5 : (ji3) ≤ (wrap64 ((ji3) + 1))
    rotate_left
    · rw [if_neg c5] at H
      exact absurd H (by simp)
    rw [if_pos c5] at H
    have c5b0 := eq_true c5
    have c5b1 : decide ((ji3) ≤ (wrap64 ((ji3) + 1))) = true := decide_eq_true c5
    by_cases c6 : (wrap64 ((ji3) + 1)) ≤ 16
    rotate_left
    · rw [if_neg c6] at H
      exact absurd H (by simp)
    rw [if_pos c6] at H
    have c6b0 := eq_true c6
    have c6b1 : decide ((wrap64 ((ji3) + 1)) ≤ 16) = true := decide_eq_true c6
    by_cases c7 : ((⟨#[48, 49, 50, 51, 52, 53, 54, 55, 56, 57, 97, 98, 99, 100, 101, 102]⟩ : ByteArray).extract ((ji3) : Int).toNat ((wrap64 ((ji3) + 1)) : Int).toNat).size + x3_1.size ≤ 9223372036854775807
    · rw [if_pos c7] at H
      have c7b0 := eq_true c7
      have c7b1 : decide (((⟨#[48, 49, 50, 51, 52, 53, 54, 55, 56, 57, 97, 98, 99, 100, 101, 102]⟩ : ByteArray).extract ((ji3) : Int).toNat ((wrap64 ((ji3) + 1)) : Int).toNat).size + x3_1.size ≤ 9223372036854775807) = true := decide_eq_true c7
      try have c7b2 : (9223372036854775807 < ((⟨#[48, 49, 50, 51, 52, 53, 54, 55, 56, 57, 97, 98, 99, 100, 101, 102]⟩ : ByteArray).extract ((ji3) : Int).toNat ((wrap64 ((ji3) + 1)) : Int).toNat).size + x3_1.size) = False := eq_false (Nat.not_lt.2 c7)
      have H' := Aside0.mk H
      clear H
      go_wp2
      go_roundg k1
      case measure => have := HK1.out; omega
      case rel => exact ⟨(wrap64 (Int.tdiv x0_1 16)), (((⟨#[48, 49, 50, 51, 52, 53, 54, 55, 56, 57, 97, 98, 99, 100, 101, 102]⟩ : ByteArray).extract ((ji3) : Int).toNat ((wrap64 ((ji3) + 1)) : Int).toNat) ++ x3_1), zI, (by first | rfl | (simp; done) | (simp only [← hji3] <;> (first | rfl | simp)) | (simp [*]; done)), (by first | exact H' | (rw [hji3]; exact H') | (rw [← hji3]; exact H') | (simp only [hji3] at H' ⊢; exact H') | (simp only [← hji3] at H' ⊢; exact H')), ⟨by have := HK1.out; omega⟩, by repeat (first | exact Drawn0.refl _ | apply Drawn0.step)⟩
    rw [if_neg c7] at H
    exact absurd H (by simp)
  rw [if_neg c2] at H
  have c2b0 : decide (15 < x0_1) = false := decide_eq_false c2; clear c2
  by_cases c8 : 0 ≤ x0_1
  rotate_left
  · rw [if_neg c8] at H
    exact absurd H (by simp)
  rw [if_pos c8] at H
  have c8b0 := eq_true c8
  have c8b1 : decide (0 ≤ x0_1) = true := decide_eq_true c8; clear c8
  by_cases c9 : x0_1 ≤ (wrap64 (x0_1 + 1))
  rotate_left
  · rw [if_neg c9] at H
    exact absurd H (by simp)
  rw [if_pos c9] at H
  have c9b0 := eq_true c9
  have c9b1 : decide (x0_1 ≤ (wrap64 (x0_1 + 1))) = true := decide_eq_true c9
  by_cases c10 : (wrap64 (x0_1 + 1)) ≤ 16
  rotate_left
  · rw [if_neg c10] at H
    exact absurd H (by simp)
  rw [if_pos c10] at H
  have c10b0 := eq_true c10
  have c10b1 : decide ((wrap64 (x0_1 + 1)) ≤ 16) = true := decide_eq_true c10
  by_cases c11 : ((⟨#[48, 49, 50, 51, 52, 53, 54, 55, 56, 57, 97, 98, 99, 100, 101, 102]⟩ : ByteArray).extract (x0_1 : Int).toNat ((wrap64 (x0_1 + 1)) : Int).toNat).size + x3_1.size ≤ 9223372036854775807
  · rw [if_pos c11] at H
    have c11b0 := eq_true c11
    have c11b1 : decide (((⟨#[48, 49, 50, 51, 52, 53, 54, 55, 56, 57, 97, 98, 99, 100, 101, 102]⟩ : ByteArray).extract (x0_1 : Int).toNat ((wrap64 (x0_1 + 1)) : Int).toNat).size + x3_1.size ≤ 9223372036854775807) = true := decide_eq_true c11
    try have c11b2 : (9223372036854775807 < ((⟨#[48, 49, 50, 51, 52, 53, 54, 55, 56, 57, 97, 98, 99, 100, 101, 102]⟩ : ByteArray).extract (x0_1 : Int).toNat ((wrap64 (x0_1 + 1)) : Int).toNat).size + x3_1.size) = False := eq_false (Nat.not_lt.2 c11)
    obtain rfl := Option.some.inj H
    go_wp2
    go_ret
    exact ⟨by first | rfl | (simp; done) | (simp [*]; done), by repeat (first | exact Drawn0.refl _ | apply Drawn0.step)⟩
  rw [if_neg c11] at H
  exact absurd H (by simp)
end Go.Proofs.YtnphnhkinjppjaaGreatDoor.Q
end

section
set_option maxHeartbeats 8000000
set_option maxRecDepth 100000
namespace Go.Proofs.YtnphnhkinjppjaaGreatDoor.Q
open Go.RowKit Go.Proofs.YtnphnhkinjppjaaGreatDoorW.PrintWords Go.Proofs.YtnphnhkinjppjaaGreatDoorW.PrintLast Go.Proofs.YtnphnhkinjppjaaGreatDoorW.PrintMore
attribute [local go_sem] max2_int min2_int max_two min_two max_three min_three max_four min_four
mutual
def r06_Format.l0 : Nat → List Int → Int → Int → Int → Option (ByteArray)
  | 0, _, _, _, _ => none
  | k + 1, x3, x4, x5, x6 => if x6 < 8 then ((r06_run.f k x3 x6).bind fun t342 => (if t342 > x5 then ((r06_run.f k x3 x6).bind fun t343 => (r06_Format.l0 k x3 x6 t343 (wrap64 (x6 + 1)))) else (r06_Format.l0 k x3 x4 x5 (wrap64 (x6 + 1))))) else (r06_Format.l1 k x3 x4 x5 (⟨#[]⟩ : ByteArray) 0)
def r06_Format.l1 : Nat → List Int → Int → Int → ByteArray → Int → Option (ByteArray)
  | 0, _, _, _, _, _ => none
  | k + 1, x3, x4, x5, x7, x8 => if x8 < 8 then (if x8 = x4 then (if x7.size + 2 ≤ 9223372036854775807 then (r06_Format.l1 k x3 x4 x5 (x7 ++ (⟨#[58, 58]⟩ : ByteArray)) (wrap64 ((wrap64 (x8 + (wrap64 (x5 - 1)))) + 1))) else (none)) else (if x7.toList = ([] : List UInt8) then (if 0 ≤ x8 then (if x8 < (x3.length : Int) then ((r06_hex.f k (rd x3 x8)).bind fun t345 => (if x7.size + t345.size ≤ 9223372036854775807 then (r06_Format.l1 k x3 x4 x5 (x7 ++ t345) (wrap64 (x8 + 1))) else (none))) else (none)) else (none)) else (if 0 ≤ (wrap64 ((x7.size : Int) - 1)) then (if (wrap64 ((x7.size : Int) - 1)) < (x7.size : Int) then (if (bt x7 (wrap64 ((x7.size : Int) - 1))) = 58 then (if 0 ≤ x8 then (if x8 < (x3.length : Int) then ((r06_hex.f k (rd x3 x8)).bind fun t347 => (if x7.size + t347.size ≤ 9223372036854775807 then (r06_Format.l1 k x3 x4 x5 (x7 ++ t347) (wrap64 (x8 + 1))) else (none))) else (none)) else (none)) else (if x7.size + 1 ≤ 9223372036854775807 then (if 0 ≤ x8 then (if x8 < (x3.length : Int) then ((r06_hex.f k (rd x3 x8)).bind fun t349 => (if (x7 ++ (⟨#[58]⟩ : ByteArray)).size + t349.size ≤ 9223372036854775807 then (r06_Format.l1 k x3 x4 x5 ((x7 ++ (⟨#[58]⟩ : ByteArray)) ++ t349) (wrap64 (x8 + 1))) else (none))) else (none)) else (none)) else (none))) else (none)) else (none)))) else (some x7)
end
def r06_Format.f (k : Nat) (a0_0 : Bool) (a0_1 : Int) (a0_2 : Int) : Option (ByteArray) := if a0_0 = true then ((r06_Groups.f k a0_0 a0_1 a0_2).bind fun t339 => (r06_Format.l0 k t339 (-1) 1 0)) else ((r06_Number.f k (wrap64 (Go.bits .and .u64 (a0_2 / 16777216) 255))).bind fun t335 => (if t335.size + 1 ≤ 9223372036854775807 then ((r06_Number.f k (wrap64 (Go.bits .and .u64 (a0_2 / 65536) 255))).bind fun t336 => (if (t335 ++ (⟨#[46]⟩ : ByteArray)).size + t336.size ≤ 9223372036854775807 then (if ((t335 ++ (⟨#[46]⟩ : ByteArray)) ++ t336).size + 1 ≤ 9223372036854775807 then ((r06_Number.f k (wrap64 (Go.bits .and .u64 (a0_2 / 256) 255))).bind fun t337 => (if (((t335 ++ (⟨#[46]⟩ : ByteArray)) ++ t336) ++ (⟨#[46]⟩ : ByteArray)).size + t337.size ≤ 9223372036854775807 then (if ((((t335 ++ (⟨#[46]⟩ : ByteArray)) ++ t336) ++ (⟨#[46]⟩ : ByteArray)) ++ t337).size + 1 ≤ 9223372036854775807 then ((r06_Number.f k (wrap64 (Go.bits .and .u64 a0_2 255))).bind fun t338 => (if (((((t335 ++ (⟨#[46]⟩ : ByteArray)) ++ t336) ++ (⟨#[46]⟩ : ByteArray)) ++ t337) ++ (⟨#[46]⟩ : ByteArray)).size + t338.size ≤ 9223372036854775807 then (some ((((((t335 ++ (⟨#[46]⟩ : ByteArray)) ++ t336) ++ (⟨#[46]⟩ : ByteArray)) ++ t337) ++ (⟨#[46]⟩ : ByteArray)) ++ t338)) else (none))) else (none)) else (none))) else (none)) else (none))) else (none)))
theorem r06_Format.mono_l : ∀ k, (∀ y0 y1 y2 y3, LeO (r06_Format.l0 k y0 y1 y2 y3) (r06_Format.l0 (k + 1) y0 y1 y2 y3)) ∧ (∀ y0 y1 y2 y3 y4, LeO (r06_Format.l1 k y0 y1 y2 y3 y4) (r06_Format.l1 (k + 1) y0 y1 y2 y3 y4))
  | 0 => ⟨fun _ _ _ _ r h => by simp [r06_Format.l0] at h, fun _ _ _ _ _ r h => by simp [r06_Format.l1] at h⟩
  | k + 1 => by
    obtain ⟨ih0, ih1⟩ := r06_Format.mono_l k
    refine ⟨?_, ?_⟩
    · intro y0 y1 y2 y3
      unfold r06_Format.l0
      repeat' first
      | (with_reducible exact ih0 _ _ _ _)
      | (with_reducible exact ih1 _ _ _ _ _)
      | (with_reducible exact r06_Groups.mono _ _ _ _)
      | (with_reducible exact r06_Number.mono _ _)
      | (with_reducible exact r06_hex.mono _ _)
      | (with_reducible exact r06_run.mono _ _ _)
      | (with_reducible exact LeO.refl _)
      | (with_reducible exact LeO.none _)
      | (with_reducible refine LeO.ite ?_ ?_)
      | (with_reducible refine LeO.bind ?_ (fun _ => ?_))
    · intro y0 y1 y2 y3 y4
      unfold r06_Format.l1
      repeat' first
      | (with_reducible exact ih0 _ _ _ _)
      | (with_reducible exact ih1 _ _ _ _ _)
      | (with_reducible exact r06_Groups.mono _ _ _ _)
      | (with_reducible exact r06_Number.mono _ _)
      | (with_reducible exact r06_hex.mono _ _)
      | (with_reducible exact r06_run.mono _ _ _)
      | (with_reducible exact LeO.refl _)
      | (with_reducible exact LeO.none _)
      | (with_reducible refine LeO.ite ?_ ?_)
      | (with_reducible refine LeO.bind ?_ (fun _ => ?_))
theorem r06_Format.mono : ∀ a0 a1 a2 k, LeO (r06_Format.f k a0 a1 a2) (r06_Format.f (k + 1) a0 a1 a2) := by
  intro a0 a1 a2 k
  obtain ⟨ih0, ih1⟩ := r06_Format.mono_l k
  unfold r06_Format.f
  repeat' first
      | (with_reducible exact ih0 _ _ _ _)
      | (with_reducible exact ih1 _ _ _ _ _)
      | (with_reducible exact r06_Groups.mono _ _ _ _)
      | (with_reducible exact r06_Number.mono _ _)
      | (with_reducible exact r06_hex.mono _ _)
      | (with_reducible exact r06_run.mono _ _ _)
      | (with_reducible exact LeO.refl _)
      | (with_reducible exact LeO.none _)
      | (with_reducible refine LeO.ite ?_ ?_)
      | (with_reducible refine LeO.bind ?_ (fun _ => ?_))
def r06_Format.T2 : Bool × List (List Nat × List Nat) := (true, [([], []), ([0], [0]), ([1], [1]), ([2], [2]), ([3], [3]), ([4], [4]), ([5], [5]), ([], []), ([7], [7]), ([8], [8]), ([9], [9]), ([10], [10]), ([11, 5], [11]), ([6, 12], [6, 12]), ([13], [13]), ([], []), ([15], [15]), ([16], [16]), ([17], [17]), ([18], [18]), ([19, 12], [19]), ([14, 20], [14, 20]), ([21], [21]), ([], []), ([23], [23]), ([24], [24]), ([25], [25]), ([26, 20], [26]), ([22, 27], [22, 27]), ([28, 27, 0, 1, 2, 3, 4, 5, 6, 7, 8, 9, 10, 11, 12, 13, 14, 15, 16, 17, 18, 19, 20, 21, 22, 23, 24, 25, 26, 27, 28], [28])])
def r06_Format.B2 : List Nat := [0, 1, 3, 7, 15, 31, 63, 0, 128, 384, 896, 1920, 4031, 8191, 16383, 0, 32768, 98304, 229376, 491520, 1023935, 2097151, 4194303, 0, 8388608, 25165824, 58720256, 127901631, 268435455, 536870911]
theorem r06_Format.tab2 : rtab .any (opsOf Tryz.f100 2) = r06_Format.T2 := by kernel_rfl
theorem r06_Format.bits2 : waitsOk r06_Format.T2.2 r06_Format.B2 = true := by kernel_rfl
theorem r06_Format.calls (k : Nat) (a0_0 : Bool) (a0_1 : Int) (a0_2 : Int) (r : ByteArray) (w : World) (h : r06_Format.f k a0_0 a0_1 a0_2 = some r) :
 Calls Tryz.prog 100 #[.agg #[.bool a0_0, .int .u64 a0_1, .int .u64 a0_2]] w fun e w' => e = .returned (.string r) ∧ Below w.heap.size w w' := by
 have hu31 := Tryz.underlying31
 have HB := Aside0.mk (Below.refl w.heap.size w)
 unfold r06_Format.f at h; have H := h
 clear h
 by_cases c2 : a0_0 = true
 · subst c2
   rw [if_pos rfl] at H
   replace H := Option.bind_eq_some_iff.mp H
   obtain ⟨t339, A30, H⟩ := H
   try dsimp only at H
   have A3 := Aside0.mk A30; clear A30
   have H' := Aside0.mk H
   clear H
   go_enter Tryz.func100, Tryz.ntmps100
   go_wp2_with (first | ((with_reducible refine gate_dst (N := 1) rfl ?_); (try (refine gate_guard (by rfl) ?_; dsimp only)); refine zx 1 #[.bool true, .int .u64 a0_1, .int .u64 a0_2] 31 ?_; intro gb334 hg w4 hbox hb; have BK334 := Aside0.mk (hbox); have GW334 := zG HB hg; have GE334 := zG HB hg; replace HB := Aside0.mk (below_step (zB HB) hb); clear hb hbox hg; obtain ⟨hcz5_0, hcz5_1, hcz5_2⟩ := zc3 BK334; obtain ⟨hfz5_0, hfz5_1, hfz5_2⟩ := zf3 BK334) | ((with_reducible refine gate_callee (f := 125) rfl ?_); refine zgl 42 Tryz.func125 #[.agg #[.bool true, .int .u64 a0_1, .int .u64 a0_2]] ?_; (with_reducible refine (r06_Groups.calls k true a0_1 a0_2 t339 _ A3.out).mono ?_); rintro e w6 ⟨v340, rfl, ho0, hb⟩; refine ⟨_, rfl, ?_⟩; have HO341 := Aside0.mk (Kd.R_lower ho0 (below_size (zB HB))); replace BK334 := zkb BK334 hb; replace HB := Aside0.mk (below_step (zB HB) hb); (try clear hb); (try clear ho0)))
   go_loopg [4, 5, 6] k (fun kq v4 v5 v6 w' => ∃ (x4_1 : Int) (x5_1 : Int) (x6_1 : Int), v4 = .int .i64 x4_1 ∧ v5 = .int .i64 x5_1 ∧ v6 = .int .i64 x6_1 ∧ Aside0 (r06_Format.l0 kq t339 x4_1 x5_1 x6_1 = some r) ∧ Aside0 (kq ≤ k) ∧ Aside0 (Kd.R (Kd.int .i64) 3 w' w.heap.size (fun _ => True) v340 t339) ∧ Aside0 (w'.heap[gb334]? = some (.cells #[.bool true, .int .u64 a0_1, .int .u64 a0_2] 31 (0, 0))) ∧ Aside0 (Below w.heap.size w w'))
   case atStart => exact ⟨((-1)), (1), (0), zI, zI, zI, H', ⟨Nat.le_refl _⟩, ⟨zR HO341⟩, ⟨zK BK334⟩, ⟨zB HB⟩⟩
   case round =>
    clear H'
    (try clear c2); (try clear hcz5_0 hcz5_1 hcz5_2); (try clear hfz5_0 hfz5_1 hfz5_2)
    obtain ⟨x4_1, x5_1, x6_1, rfl, rfl, rfl, HA, HK1, HO_3, BK334, HB⟩ := hrel
    rcases gk with _ | k1
    · exact absurd HA.out (by simp [r06_Format.l0])
    have H := HA.out
    clear HA
    simp only [r06_Format.l0] at H
    by_cases c7 : x6_1 < 8
    · rw [if_pos c7] at H
      have c7b0 : decide (x6_1 < 8) = true := decide_eq_true c7; clear c7
      replace H := Option.bind_eq_some_iff.mp H
      obtain ⟨t342, A80, H⟩ := H
      try dsimp only at H
      have A8 := Aside0.mk A80; clear A80
      by_cases c9 : t342 > x5_1
      · rw [if_pos c9] at H
        have c9b0 : decide (x5_1 < t342) = true := decide_eq_true c9; clear c9
        replace H := Option.bind_eq_some_iff.mp H
        obtain ⟨t343, A100, H⟩ := H
        try dsimp only at H
        have A10 := Aside0.mk A100; clear A100
        have H' := Aside0.mk H
        clear H
        obtain ⟨Ao11, co11, eo11⟩ := Kd.R_slice HO_3.out
        subst eo11
        go_wp2_with (first | ((with_reducible refine gate_callee (f := 126) rfl ?_); refine zgl 49 Tryz.func126 #[.slice Ao11 t339.length co11, .int .i64 x6_1] ?_; (with_reducible refine (r06_run.calls k1 _ _ t339 x6_1 t342 _ ?side1 ?side2 A8.out).mono ?_); (case side1 => repeat (first | exact (Kd.R_reads' HO_3.out).2.2 | (with_reducible refine Kd.C_alloc ?_ _) | (with_reducible refine Kd.C_drewN ?_ _) | (with_reducible refine Kd.C_drew ?_))); (case side2 => exact (Kd.R_reads' HO_3.out).2.1); rintro e w' ⟨rfl, ⟨nd, rfl⟩⟩; refine ⟨_, rfl, ?_⟩) | ((with_reducible refine gate_callee (f := 126) rfl ?_); refine zgl 55 Tryz.func126 #[.slice Ao11 t339.length co11, .int .i64 x6_1] ?_; (with_reducible refine (r06_run.calls k1 _ _ t339 x6_1 t343 _ ?side1 ?side2 A10.out).mono ?_); (case side1 => repeat (first | exact (Kd.R_reads' HO_3.out).2.2 | (with_reducible refine Kd.C_alloc ?_ _) | (with_reducible refine Kd.C_drewN ?_ _) | (with_reducible refine Kd.C_drew ?_))); (case side2 => exact (Kd.R_reads' HO_3.out).2.1); rintro e w' ⟨rfl, ⟨nd, rfl⟩⟩; refine ⟨_, rfl, ?_⟩))
        go_roundg k1
        case measure => have := HK1.out; omega
        case rel => exact ⟨(x6_1), (t343), (wrap64 (x6_1 + 1)), zI, zI, zI, H', ⟨by have := HK1.out; omega⟩, ⟨zR HO_3⟩, ⟨zK BK334⟩, ⟨zB HB⟩⟩
      rw [if_neg c9] at H
      have c9b0 : decide (x5_1 < t342) = false := decide_eq_false c9; clear c9
      have H' := Aside0.mk H
      clear H
      obtain ⟨Ao12, co12, eo12⟩ := Kd.R_slice HO_3.out
      subst eo12
      go_wp2_with (first | ((with_reducible refine gate_callee (f := 126) rfl ?_); refine zgl 49 Tryz.func126 #[.slice Ao12 t339.length co12, .int .i64 x6_1] ?_; (with_reducible refine (r06_run.calls k1 _ _ t339 x6_1 t342 _ ?side1 ?side2 A8.out).mono ?_); (case side1 => repeat (first | exact (Kd.R_reads' HO_3.out).2.2 | (with_reducible refine Kd.C_alloc ?_ _) | (with_reducible refine Kd.C_drewN ?_ _) | (with_reducible refine Kd.C_drew ?_))); (case side2 => exact (Kd.R_reads' HO_3.out).2.1); rintro e w' ⟨rfl, ⟨nd, rfl⟩⟩; refine ⟨_, rfl, ?_⟩))
      go_roundg k1
      case measure => have := HK1.out; omega
      case rel => exact ⟨(x4_1), (x5_1), (wrap64 (x6_1 + 1)), zI, zI, zI, H', ⟨by have := HK1.out; omega⟩, ⟨zR HO_3⟩, ⟨zK BK334⟩, ⟨zB HB⟩⟩
    rw [if_neg c7] at H
    have c7b0 : decide (x6_1 < 8) = false := decide_eq_false c7; clear c7
    have H' := Aside0.mk H
    clear H
    go_wp2
    go_loopg [7, 8] k1 (fun kq v7 v8 w' => ∃ (x7_2 : ByteArray) (x8_2 : Int), v7 = .string x7_2 ∧ v8 = .int .i64 x8_2 ∧ Aside0 (r06_Format.l1 kq t339 x4_1 x5_1 x7_2 x8_2 = some r) ∧ Aside0 (kq ≤ k1) ∧ Aside0 (Kd.R (Kd.int .i64) 3 w' w.heap.size (fun _ => True) v340 t339) ∧ Aside0 (w'.heap[gb334]? = some (.cells #[.bool true, .int .u64 a0_1, .int .u64 a0_2] 31 (0, 0))) ∧ Aside0 (Below w.heap.size w w'))
    case atStart => exact ⟨((⟨#[]⟩ : ByteArray)), (0), zI, zI, H', ⟨Nat.le_refl _⟩, ⟨zR HO_3⟩, ⟨zK BK334⟩, ⟨zB HB⟩⟩
    case round =>
     clear H'
     (try clear c7); (try clear c7b0)
     obtain ⟨x7_2, x8_2, rfl, rfl, HA, HK2, HO_3, BK334, HB⟩ := hrel
     rcases gk with _ | k2
     · exact absurd HA.out (by simp [r06_Format.l1])
     have H := HA.out
     clear HA
     simp only [r06_Format.l1] at H
     by_cases c13 : x8_2 < 8
     rotate_left
     · rw [if_neg c13] at H
       have c13b0 : decide (x8_2 < 8) = false := decide_eq_false c13; clear c13
       obtain rfl := Option.some.inj H
       go_wp2
       go_ret
       exact ⟨zr, zB HB⟩
     rw [if_pos c13] at H
     have c13b0 : decide (x8_2 < 8) = true := decide_eq_true c13; clear c13
     by_cases c14 : x8_2 = x4_1
     · rw [if_pos c14] at H
       have c14b0 : (x8_2 == x4_1) = true := beq_iff_eq.mpr c14; have c14b1 : (x8_2 != x4_1) = false := bne_eq_false_iff_eq.mpr c14; clear c14
       by_cases c15 : x7_2.size + 2 ≤ 9223372036854775807
       · rw [if_pos c15] at H
         have c15b0 := eq_true c15
         have c15b1 : decide (x7_2.size + 2 ≤ 9223372036854775807) = true := decide_eq_true c15
         try have c15b2 : (9223372036854775807 < x7_2.size + 2) = False := eq_false (Nat.not_lt.2 c15)
         have H' := Aside0.mk H
         clear H
         go_wp2
         go_roundg k2
         case measure => have := HK1.out; have := HK2.out; omega
         case rel => exact ⟨(x7_2 ++ (⟨#[58, 58]⟩ : ByteArray)), (wrap64 ((wrap64 (x8_2 + (wrap64 (x5_1 - 1)))) + 1)), zI, zI, H', ⟨by have := HK1.out; have := HK2.out; omega⟩, ⟨zR HO_3⟩, ⟨zK BK334⟩, ⟨zB HB⟩⟩
       rw [if_neg c15] at H
       exact absurd H (by simp)
     rw [if_neg c14] at H
     have c14b0 : (x8_2 == x4_1) = false := beq_eq_false_iff_ne.mpr c14
     have c14b1 : (x8_2 != x4_1) = true := bne_iff_ne.mpr c14
     by_cases c16 : x7_2.toList = ([] : List UInt8)
     · rw [if_pos c16] at H
       have c16b0 : (x7_2.toList == ([] : List UInt8)) = true := beq_iff_eq.mpr c16; have c16b1 : (x7_2.toList != ([] : List UInt8)) = false := bne_eq_false_iff_eq.mpr c16; clear c16
       by_cases c17 : 0 ≤ x8_2
       rotate_left
       · rw [if_neg c17] at H
         exact absurd H (by simp)
       rw [if_pos c17] at H
       have c17b0 : decide (0 ≤ x8_2) = true := decide_eq_true c17; clear c17
       by_cases c18 : x8_2 < (t339.length : Int)
       rotate_left
       · rw [if_neg c18] at H
         exact absurd H (by simp)
       rw [if_pos c18] at H
       have c18b0 : decide (x8_2 < (t339.length : Int)) = true := decide_eq_true c18; clear c18
       replace H := Option.bind_eq_some_iff.mp H
       obtain ⟨t345, A190, H⟩ := H
       try dsimp only at H
       have A19 := Aside0.mk A190; clear A190
       by_cases c20 : x7_2.size + t345.size ≤ 9223372036854775807
       rotate_left
       · rw [if_neg c20] at H
         exact absurd H (by simp)
       rw [if_pos c20] at H
       have c20b0 := eq_true c20
       have c20b1 : decide (x7_2.size + t345.size ≤ 9223372036854775807) = true := decide_eq_true c20
       try have c20b2 : (9223372036854775807 < x7_2.size + t345.size) = False := eq_false (Nat.not_lt.2 c20)
       have H' := Aside0.mk H
       clear H
       obtain ⟨Ao21, co21, eo21⟩ := Kd.R_slice HO_3.out
       subst eo21
       have p344 : 0 ≤ (x8_2 : Int) := za
       have q344 : x8_2 < (t339.length : Int) := za
       obtain ⟨ad344, e344, hx344_0⟩ := Kd.at_int (Kd.R_reads' HO_3.out).2.2 x8_2 p344 q344
       cases e344
       replace p344 := eq_true p344
       replace q344 := eq_true q344
       go_wp2_with (first | ((with_reducible refine gate_callee (f := 127) rfl ?_); refine zgl 86 Tryz.func127 #[.int .i64 (rd t339 x8_2)] ?_; (with_reducible refine (r06_hex.calls k2 (rd t339 x8_2) t345 _ A19.out).mono ?_); rintro e w' ⟨rfl, ⟨nd, rfl⟩⟩; refine ⟨_, rfl, ?_⟩))
       go_roundg k2
       case measure => have := HK1.out; have := HK2.out; omega
       case rel => exact ⟨(x7_2 ++ t345), (wrap64 (x8_2 + 1)), zI, zI, H', ⟨by have := HK1.out; have := HK2.out; omega⟩, ⟨zR HO_3⟩, ⟨zK BK334⟩, ⟨zB HB⟩⟩
     rw [if_neg c16] at H
     have c16b0 : (x7_2.toList == ([] : List UInt8)) = false := beq_eq_false_iff_ne.mpr c16
     have c16b1 : (x7_2.toList != ([] : List UInt8)) = true := bne_iff_ne.mpr c16
     obtain ⟨ji22, hji22⟩ : ∃ j_ : Int, (wrap64 ((x7_2.size : Int) - 1)) = j_ := ⟨_, rfl⟩
     replace H : (if 0 ≤ (ji22) then (if (ji22) < (x7_2.size : Int) then (if (bt x7_2 (ji22)) = 58 then (if 0 ≤ x8_2 then (if x8_2 < (t339.length : Int) then ((r06_hex.f k2 (rd t339 x8_2)).bind fun t347 => (if x7_2.size + t347.size ≤ 9223372036854775807 then (r06_Format.l1 k2 t339 x4_1 x5_1 (x7_2 ++ t347) (wrap64 (x8_2 + 1))) else (none))) else (none)) else (none)) else (if x7_2.size + 1 ≤ 9223372036854775807 then (if 0 ≤ x8_2 then (if x8_2 < (t339.length : Int) then ((r06_hex.f k2 (rd t339 x8_2)).bind fun t349 => (if (x7_2 ++ (⟨#[58]⟩ : ByteArray)).size + t349.size ≤ 9223372036854775807 then (r06_Format.l1 k2 t339 x4_1 x5_1 ((x7_2 ++ (⟨#[58]⟩ : ByteArray)) ++ t349) (wrap64 (x8_2 + 1))) else (none))) else (none)) else (none)) else (none))) else (none)) else (none)) = some r := by first | (rw [hji22] at H; exact H) | (simp only [hji22] at H ⊢; exact H)
     have hji22w : (IntKind.i64.wrap ((x7_2.size : Int) - 1)) = ji22 := (i64_w _).trans hji22
     by_cases c23 : 0 ≤ (ji22)
     rotate_left
     · rw [if_neg c23] at H
       exact absurd H (by simp)
     rw [if_pos c23] at H
     have c23b0 : decide (0 ≤ (ji22)) = true := decide_eq_true c23; clear c23
     by_cases c24 : (ji22) < (x7_2.size : Int)
     rotate_left
     · rw [if_neg c24] at H
       exact absurd H (by simp)
     rw [if_pos c24] at H
     have c24b0 : decide ((ji22) < (x7_2.size : Int)) = true := decide_eq_true c24; clear c24
     by_cases c26 : (bt x7_2 (ji22)) = 58
     · rw [if_pos c26] at H
       have c26b0 : ((bt x7_2 (ji22)) == 58) = true := beq_iff_eq.mpr c26; have c26b1 : ((bt x7_2 (ji22)) != 58) = false := bne_eq_false_iff_eq.mpr c26; clear c26
       by_cases c27 : 0 ≤ x8_2
       rotate_left
       · rw [if_neg c27] at H
         exact absurd H (by simp)
       rw [if_pos c27] at H
       have c27b0 : decide (0 ≤ x8_2) = true := decide_eq_true c27; clear c27
       by_cases c28 : x8_2 < (t339.length : Int)
       rotate_left
       · rw [if_neg c28] at H
         exact absurd H (by simp)
       rw [if_pos c28] at H
       have c28b0 : decide (x8_2 < (t339.length : Int)) = true := decide_eq_true c28; clear c28
       replace H := Option.bind_eq_some_iff.mp H
       obtain ⟨t347, A290, H⟩ := H
       try dsimp only at H
       have A29 := Aside0.mk A290; clear A290
       by_cases c30 : x7_2.size + t347.size ≤ 9223372036854775807
       rotate_left
       · rw [if_neg c30] at H
         exact absurd H (by simp)
       rw [if_pos c30] at H
       have c30b0 := eq_true c30
       have c30b1 : decide (x7_2.size + t347.size ≤ 9223372036854775807) = true := decide_eq_true c30
       try have c30b2 : (9223372036854775807 < x7_2.size + t347.size) = False := eq_false (Nat.not_lt.2 c30)
       have H' := Aside0.mk H
       clear H
       have p25 : 0 ≤ ((ji22) : Int) := za
       have q25 : (ji22) < (x7_2.size : Int) := za
       have hx25 := bt_at x7_2 (ji22)
       replace p25 := eq_true p25
       replace q25 := eq_true q25
       obtain ⟨Ao31, co31, eo31⟩ := Kd.R_slice HO_3.out
       subst eo31
       have p346 : 0 ≤ (x8_2 : Int) := za
       have q346 : x8_2 < (t339.length : Int) := za
       obtain ⟨ad346, e346, hx346_0⟩ := Kd.at_int (Kd.R_reads' HO_3.out).2.2 x8_2 p346 q346
       cases e346
       replace p346 := eq_true p346
       replace q346 := eq_true q346
       go_wp2_with (first | ((with_reducible refine gate_callee (f := 127) rfl ?_); refine zgl 86 Tryz.func127 #[.int .i64 (rd t339 x8_2)] ?_; (with_reducible refine (r06_hex.calls k2 (rd t339 x8_2) t347 _ A29.out).mono ?_); rintro e w' ⟨rfl, ⟨nd, rfl⟩⟩; refine ⟨_, rfl, ?_⟩))
       go_roundg k2
       case measure => have := HK1.out; have := HK2.out; omega
       case rel => exact ⟨(x7_2 ++ t347), (wrap64 (x8_2 + 1)), zI, zI, H', ⟨by have := HK1.out; have := HK2.out; omega⟩, ⟨zR HO_3⟩, ⟨zK BK334⟩, ⟨zB HB⟩⟩
     rw [if_neg c26] at H
     have c26b0 : ((bt x7_2 (ji22)) == 58) = false := beq_eq_false_iff_ne.mpr c26
     have c26b1 : ((bt x7_2 (ji22)) != 58) = true := bne_iff_ne.mpr c26
     by_cases c32 : x7_2.size + 1 ≤ 9223372036854775807
     rotate_left
     · rw [if_neg c32] at H
       exact absurd H (by simp)
     rw [if_pos c32] at H
     have c32b0 := eq_true c32
     have c32b1 : decide (x7_2.size + 1 ≤ 9223372036854775807) = true := decide_eq_true c32
     try have c32b2 : (9223372036854775807 < x7_2.size + 1) = False := eq_false (Nat.not_lt.2 c32)
     by_cases c33 : 0 ≤ x8_2
     rotate_left
     · rw [if_neg c33] at H
       exact absurd H (by simp)
     rw [if_pos c33] at H
     have c33b0 : decide (0 ≤ x8_2) = true := decide_eq_true c33; clear c33
     by_cases c34 : x8_2 < (t339.length : Int)
     rotate_left
     · rw [if_neg c34] at H
       exact absurd H (by simp)
     rw [if_pos c34] at H
     have c34b0 : decide (x8_2 < (t339.length : Int)) = true := decide_eq_true c34; clear c34
     replace H := Option.bind_eq_some_iff.mp H
     obtain ⟨t349, A350, H⟩ := H
     try dsimp only at H
     have A35 := Aside0.mk A350; clear A350
     by_cases c36 : (x7_2 ++ (⟨#[58]⟩ : ByteArray)).size + t349.size ≤ 9223372036854775807
     rotate_left
     · rw [if_neg c36] at H
       exact absurd H (by simp)
     rw [if_pos c36] at H
     have c36b0 := eq_true c36
     have c36b8 : x7_2.size + 1 + t349.size ≤ 9223372036854775807 := by have q_ := c36; simp only [ByteArray.size_append] at q_; first | exact q_ | (rw [Nat.add_assoc]; exact q_) | (simp only [Nat.add_assoc] at q_ ⊢; exact q_)
     have c36b7 : (9223372036854775807 < x7_2.size + 1 + t349.size) = False := eq_false (Nat.not_lt.2 c36b8)
     replace c36b8 := eq_true c36b8
     have c36b1 : decide ((x7_2 ++ (⟨#[58]⟩ : ByteArray)).size + t349.size ≤ 9223372036854775807) = true := decide_eq_true c36
     try have c36b2 : (9223372036854775807 < (x7_2 ++ (⟨#[58]⟩ : ByteArray)).size + t349.size) = False := eq_false (Nat.not_lt.2 c36)
     have H' := Aside0.mk H
     clear H
     have p25 : 0 ≤ ((ji22) : Int) := za
     have q25 : (ji22) < (x7_2.size : Int) := za
     have hx25 := bt_at x7_2 (ji22)
     replace p25 := eq_true p25
     replace q25 := eq_true q25
     obtain ⟨Ao37, co37, eo37⟩ := Kd.R_slice HO_3.out
     subst eo37
     have p348 : 0 ≤ (x8_2 : Int) := za
     have q348 : x8_2 < (t339.length : Int) := za
     obtain ⟨ad348, e348, hx348_0⟩ := Kd.at_int (Kd.R_reads' HO_3.out).2.2 x8_2 p348 q348
     cases e348
     replace p348 := eq_true p348
     replace q348 := eq_true q348
     go_wp2_with (first | ((with_reducible refine gate_callee (f := 127) rfl ?_); refine zgl 86 Tryz.func127 #[.int .i64 (rd t339 x8_2)] ?_; (with_reducible refine (r06_hex.calls k2 (rd t339 x8_2) t349 _ A35.out).mono ?_); rintro e w' ⟨rfl, ⟨nd, rfl⟩⟩; refine ⟨_, rfl, ?_⟩))
     go_roundg k2
     case measure => have := HK1.out; have := HK2.out; omega
     case rel => exact ⟨((x7_2 ++ (⟨#[58]⟩ : ByteArray)) ++ t349), (wrap64 (x8_2 + 1)), zI, zI, H', ⟨by have := HK1.out; have := HK2.out; omega⟩, ⟨zR HO_3⟩, ⟨zK BK334⟩, ⟨zB HB⟩⟩
 replace c2 := Bool.eq_false_iff.mpr c2
 subst c2; rw [if_neg zF] at H
 replace H := Option.bind_eq_some_iff.mp H
 obtain ⟨t335, A380, H⟩ := H
 try dsimp only at H
 have A38 := Aside0.mk A380; clear A380
 by_cases c39 : t335.size + 1 ≤ 9223372036854775807
 rotate_left
 · rw [if_neg c39] at H
   exact absurd H (by simp)
 rw [if_pos c39] at H
 have c39b0 := eq_true c39
 have c39b1 : decide (t335.size + 1 ≤ 9223372036854775807) = true := decide_eq_true c39
 try have c39b2 : (9223372036854775807 < t335.size + 1) = False := eq_false (Nat.not_lt.2 c39)
 replace H := Option.bind_eq_some_iff.mp H
 obtain ⟨t336, A400, H⟩ := H
 try dsimp only at H
 have A40 := Aside0.mk A400; clear A400
 by_cases c41 : (t335 ++ (⟨#[46]⟩ : ByteArray)).size + t336.size ≤ 9223372036854775807
 rotate_left
 · rw [if_neg c41] at H
   exact absurd H (by simp)
 rw [if_pos c41] at H
 have c41b0 := eq_true c41
 have c41b8 : t335.size + 1 + t336.size ≤ 9223372036854775807 := by have q_ := c41; simp only [ByteArray.size_append] at q_; first | exact q_ | (rw [Nat.add_assoc]; exact q_) | (simp only [Nat.add_assoc] at q_ ⊢; exact q_)
 have c41b7 : (9223372036854775807 < t335.size + 1 + t336.size) = False := eq_false (Nat.not_lt.2 c41b8)
 replace c41b8 := eq_true c41b8
 have c41b1 : decide ((t335 ++ (⟨#[46]⟩ : ByteArray)).size + t336.size ≤ 9223372036854775807) = true := decide_eq_true c41
 try have c41b2 : (9223372036854775807 < (t335 ++ (⟨#[46]⟩ : ByteArray)).size + t336.size) = False := eq_false (Nat.not_lt.2 c41)
 by_cases c42 : ((t335 ++ (⟨#[46]⟩ : ByteArray)) ++ t336).size + 1 ≤ 9223372036854775807
 rotate_left
 · rw [if_neg c42] at H
   exact absurd H (by simp)
 rw [if_pos c42] at H
 have c42b0 := eq_true c42
 have c42b8 : t335.size + 1 + t336.size + 1 ≤ 9223372036854775807 := by have q_ := c42; simp only [ByteArray.size_append] at q_; first | exact q_ | (rw [Nat.add_assoc]; exact q_) | (simp only [Nat.add_assoc] at q_ ⊢; exact q_)
 have c42b7 : (9223372036854775807 < t335.size + 1 + t336.size + 1) = False := eq_false (Nat.not_lt.2 c42b8)
 replace c42b8 := eq_true c42b8
 have c42b1 : decide (((t335 ++ (⟨#[46]⟩ : ByteArray)) ++ t336).size + 1 ≤ 9223372036854775807) = true := decide_eq_true c42
 try have c42b2 : (9223372036854775807 < ((t335 ++ (⟨#[46]⟩ : ByteArray)) ++ t336).size + 1) = False := eq_false (Nat.not_lt.2 c42)
 replace H := Option.bind_eq_some_iff.mp H
 obtain ⟨t337, A430, H⟩ := H
 try dsimp only at H
 have A43 := Aside0.mk A430; clear A430
 by_cases c44 : (((t335 ++ (⟨#[46]⟩ : ByteArray)) ++ t336) ++ (⟨#[46]⟩ : ByteArray)).size + t337.size ≤ 9223372036854775807
 rotate_left
 · rw [if_neg c44] at H
   exact absurd H (by simp)
 rw [if_pos c44] at H
 have c44b0 := eq_true c44
 have c44b8 : t335.size + 1 + t336.size + 1 + t337.size ≤ 9223372036854775807 := by have q_ := c44; simp only [ByteArray.size_append] at q_; first | exact q_ | (rw [Nat.add_assoc]; exact q_) | (simp only [Nat.add_assoc] at q_ ⊢; exact q_)
 have c44b7 : (9223372036854775807 < t335.size + 1 + t336.size + 1 + t337.size) = False := eq_false (Nat.not_lt.2 c44b8)
 replace c44b8 := eq_true c44b8
 have c44b1 : decide ((((t335 ++ (⟨#[46]⟩ : ByteArray)) ++ t336) ++ (⟨#[46]⟩ : ByteArray)).size + t337.size ≤ 9223372036854775807) = true := decide_eq_true c44
 try have c44b2 : (9223372036854775807 < (((t335 ++ (⟨#[46]⟩ : ByteArray)) ++ t336) ++ (⟨#[46]⟩ : ByteArray)).size + t337.size) = False := eq_false (Nat.not_lt.2 c44)
 by_cases c45 : ((((t335 ++ (⟨#[46]⟩ : ByteArray)) ++ t336) ++ (⟨#[46]⟩ : ByteArray)) ++ t337).size + 1 ≤ 9223372036854775807
 rotate_left
 · rw [if_neg c45] at H
   exact absurd H (by simp)
 rw [if_pos c45] at H
 have c45b0 := eq_true c45
 have c45b8 : t335.size + 1 + t336.size + 1 + t337.size + 1 ≤ 9223372036854775807 := by have q_ := c45; simp only [ByteArray.size_append] at q_; first | exact q_ | (rw [Nat.add_assoc]; exact q_) | (simp only [Nat.add_assoc] at q_ ⊢; exact q_)
 have c45b7 : (9223372036854775807 < t335.size + 1 + t336.size + 1 + t337.size + 1) = False := eq_false (Nat.not_lt.2 c45b8)
 replace c45b8 := eq_true c45b8
 have c45b1 : decide (((((t335 ++ (⟨#[46]⟩ : ByteArray)) ++ t336) ++ (⟨#[46]⟩ : ByteArray)) ++ t337).size + 1 ≤ 9223372036854775807) = true := decide_eq_true c45
 try have c45b2 : (9223372036854775807 < ((((t335 ++ (⟨#[46]⟩ : ByteArray)) ++ t336) ++ (⟨#[46]⟩ : ByteArray)) ++ t337).size + 1) = False := eq_false (Nat.not_lt.2 c45)
 replace H := Option.bind_eq_some_iff.mp H
 obtain ⟨t338, A460, H⟩ := H
 try dsimp only at H
 have A46 := Aside0.mk A460; clear A460
 by_cases c47 : (((((t335 ++ (⟨#[46]⟩ : ByteArray)) ++ t336) ++ (⟨#[46]⟩ : ByteArray)) ++ t337) ++ (⟨#[46]⟩ : ByteArray)).size + t338.size ≤ 9223372036854775807
 rotate_left
 · rw [if_neg c47] at H
   exact absurd H (by simp)
 rw [if_pos c47] at H
 have c47b0 := eq_true c47
 have c47b8 : t335.size + 1 + t336.size + 1 + t337.size + 1 + t338.size ≤ 9223372036854775807 := by have q_ := c47; simp only [ByteArray.size_append] at q_; first | exact q_ | (rw [Nat.add_assoc]; exact q_) | (simp only [Nat.add_assoc] at q_ ⊢; exact q_)
 have c47b7 : (9223372036854775807 < t335.size + 1 + t336.size + 1 + t337.size + 1 + t338.size) = False := eq_false (Nat.not_lt.2 c47b8)
 replace c47b8 := eq_true c47b8
 have c47b1 : decide ((((((t335 ++ (⟨#[46]⟩ : ByteArray)) ++ t336) ++ (⟨#[46]⟩ : ByteArray)) ++ t337) ++ (⟨#[46]⟩ : ByteArray)).size + t338.size ≤ 9223372036854775807) = true := decide_eq_true c47
 try have c47b2 : (9223372036854775807 < (((((t335 ++ (⟨#[46]⟩ : ByteArray)) ++ t336) ++ (⟨#[46]⟩ : ByteArray)) ++ t337) ++ (⟨#[46]⟩ : ByteArray)).size + t338.size) = False := eq_false (Nat.not_lt.2 c47)
 obtain rfl := Option.some.inj H
 go_enter Tryz.func100, Tryz.ntmps100
 try go_wp2_with (first | ((with_reducible refine gate_dst (N := 1) rfl ?_); (try (refine gate_guard (by rfl) ?_; dsimp only)); refine zx 1 #[.bool false, .int .u64 a0_1, .int .u64 a0_2] 31 ?_; intro gb334 hg w48 hbox hb; have BK334 := Aside0.mk (hbox); have GW334 := zG HB hg; have GE334 := zG HB hg; replace HB := Aside0.mk (below_step (zB HB) hb); clear hb hbox hg; obtain ⟨hcz49_0, hcz49_1, hcz49_2⟩ := zc3 BK334; obtain ⟨hfz49_0, hfz49_1, hfz49_2⟩ := zf3 BK334))
 replace BK334 := Aside0.mk (blk_drew BK334.out); replace HB := Aside0.mk (below_drew1 HB.out)
 refine start_ (n := 30) (S := fun w' => w'.cell? ⟨gb334, 0, none⟩ = some (.bool false) ∧ w'.cell? ⟨gb334, 1, none⟩ = some (.int .u64 a0_1) ∧ w'.cell? ⟨gb334, 2, none⟩ = some (.int .u64 a0_2)) (ds := []) #[false, false, false, false, false, false, false, false, false, false, false, false, false, false, false, false, false, false, false, false, false, false, false, false, false, false, false, false, false, false] (by kernel_rfl) rfl rfl ⟨zc BK334 0, zc BK334 1, zc BK334 2⟩ (fun hHeld => ?_); refine with_tabW r06_Format.tab2 r06_Format.bits2 (fun HT_ HW_ => ?_)
 generalize w48.drew = w50 at BK334 HB hHeld ⊢
 refine zp 0 12 HT_ ?_; refine zp 7 19 HT_ ?_; refine zp 15 27 HT_ ?_; refine zp 23 35 HT_ ?_; refine zt 1 13 HT_ HW_ hHeld ?_; refine zp 2 14 HT_ ?_; refine zp 3 15 HT_ ?_; refine zp 4 16 HT_ ?_; refine zt 8 20 HT_ HW_ hHeld ?_; refine zp 9 21 HT_ ?_; refine zp 10 22 HT_ ?_; refine zp 11 23 HT_ ?_; refine zt 16 28 HT_ HW_ hHeld ?_; refine zp 17 29 HT_ ?_; refine zp 18 30 HT_ ?_; refine zp 19 31 HT_ ?_; refine zt 24 36 HT_ HW_ hHeld ?_; refine zp 25 37 HT_ ?_; refine zp 26 38 HT_ ?_; refine zo 5 17 HT_ (fun K hK => ?_)
 refine zg Tryz.func66 #[.int .i64 (wrap64 (Go.bits .and .u64 (a0_2 / 16777216) 255))] ?_
 with_reducible refine (r06_Number.calls k (wrap64 (Go.bits .and .u64 (a0_2 / 16777216) 255)) t335 _ A38.out).mono ?_
 rintro e w51 ⟨rfl, hb⟩
 refine ⟨_, rfl, ?_⟩
 replace BK334 := zkb BK334 hb; replace HB := Aside0.mk (below_step (zB HB) hb)
 try clear hb
 refine hK.out _ _ ⟨zc BK334 0, zc BK334 1, zc BK334 2⟩ (fun hHeld => ?_)
 clear hK K
 refine zn 17 ?_; refine zp 6 18 HT_ ?_; refine zo 12 24 HT_ (fun K hK => ?_)
 refine zg Tryz.func66 #[.int .i64 (wrap64 (Go.bits .and .u64 (a0_2 / 65536) 255))] ?_
 with_reducible refine (r06_Number.calls k (wrap64 (Go.bits .and .u64 (a0_2 / 65536) 255)) t336 _ A40.out).mono ?_
 rintro e w52 ⟨rfl, hb⟩
 refine ⟨_, rfl, ?_⟩
 replace BK334 := zkb BK334 hb; replace HB := Aside0.mk (below_step (zB HB) hb)
 try clear hb
 refine hK.out _ _ ⟨zc BK334 0, zc BK334 1, zc BK334 2⟩ (fun hHeld => ?_)
 clear hK K
 refine zn 24 ?_; refine zp 13 25 HT_ ?_; refine zp 14 26 HT_ ?_; refine zo 20 32 HT_ (fun K hK => ?_)
 refine zg Tryz.func66 #[.int .i64 (wrap64 (Go.bits .and .u64 (a0_2 / 256) 255))] ?_
 with_reducible refine (r06_Number.calls k (wrap64 (Go.bits .and .u64 (a0_2 / 256) 255)) t337 _ A43.out).mono ?_
 rintro e w53 ⟨rfl, hb⟩
 refine ⟨_, rfl, ?_⟩
 replace BK334 := zkb BK334 hb; replace HB := Aside0.mk (below_step (zB HB) hb)
 try clear hb
 refine hK.out _ _ ⟨zc BK334 0, zc BK334 1, zc BK334 2⟩ (fun hHeld => ?_)
 clear hK K
 refine zn 32 ?_; refine zp 21 33 HT_ ?_; refine zp 22 34 HT_ ?_; refine zo 27 39 HT_ (fun K hK => ?_)
 refine zg Tryz.func66 #[.int .i64 (wrap64 (Go.bits .and .u64 a0_2 255))] ?_
 with_reducible refine (r06_Number.calls k (wrap64 (Go.bits .and .u64 a0_2 255)) t338 _ A46.out).mono ?_
 rintro e w54 ⟨rfl, hb⟩
 refine ⟨_, rfl, ?_⟩
 replace BK334 := zkb BK334 hb; replace HB := Aside0.mk (below_step (zB HB) hb)
 try clear hb
 refine hK.out _ _ ⟨zc BK334 0, zc BK334 1, zc BK334 2⟩ (fun hHeld => ?_)
 clear hK K
 refine zn 39 ?_; refine zp 28 40 HT_ ?_; refine zp 29 2 HT_ ?_; refine zd HT_ ?_
 try go_wp2
 go_ret
 exact ⟨zr, zB HB⟩
def r06_FormatPrefix.f (k : Nat) (a0_0 : Bool) (a0_1 : Int) (a0_2 : Int) (a0_3 : Int) : Option (ByteArray) := (r06_Format.f k a0_0 a0_1 a0_2).bind fun t351 => (if t351.size + 1 ≤ 9223372036854775807 then ((r06_Number.f k a0_3).bind fun t352 => (if (t351 ++ (⟨#[47]⟩ : ByteArray)).size + t352.size ≤ 9223372036854775807 then (some ((t351 ++ (⟨#[47]⟩ : ByteArray)) ++ t352)) else (none))) else (none))
theorem r06_FormatPrefix.mono : ∀ a0 a1 a2 a3 k, LeO (r06_FormatPrefix.f k a0 a1 a2 a3) (r06_FormatPrefix.f (k + 1) a0 a1 a2 a3) := by
  intro a0 a1 a2 a3 k
  unfold r06_FormatPrefix.f
  repeat' first
      | (with_reducible exact r06_Format.mono _ _ _ _)
      | (with_reducible exact r06_Number.mono _ _)
      | (with_reducible exact LeO.refl _)
      | (with_reducible exact LeO.none _)
      | (with_reducible refine LeO.ite ?_ ?_)
      | (with_reducible refine LeO.bind ?_ (fun _ => ?_))
def r06_FormatPrefix.T1 : Bool × List (List Nat × List Nat) := (true, [([], []), ([0], [0]), ([1], [1]), ([2], [2]), ([], []), ([4], [4]), ([5, 2], [5]), ([3, 6], [3, 6]), ([7, 6, 0, 1, 2, 3, 4, 5, 6, 7], [7])])
def r06_FormatPrefix.B1 : List Nat := [0, 1, 3, 7, 0, 16, 55, 127, 255]
theorem r06_FormatPrefix.tab1 : rtab .any (opsOf Tryz.f64 1) = r06_FormatPrefix.T1 := by kernel_rfl
theorem r06_FormatPrefix.bits1 : waitsOk r06_FormatPrefix.T1.2 r06_FormatPrefix.B1 = true := by kernel_rfl
theorem r06_FormatPrefix.calls (k : Nat) (a0_0 : Bool) (a0_1 : Int) (a0_2 : Int) (a0_3 : Int) (r : ByteArray) (w : World) (h : r06_FormatPrefix.f k a0_0 a0_1 a0_2 a0_3 = some r) :
 Calls Tryz.prog 64 #[.agg #[.bool a0_0, .int .u64 a0_1, .int .u64 a0_2, .int .i64 a0_3]] w fun e w' => e = .returned (.string r) ∧ Below w.heap.size w w' := by
 have hu33 := Tryz.underlying33
 have hu31 := Tryz.underlying31
 have HB := Aside0.mk (Below.refl w.heap.size w)
 unfold r06_FormatPrefix.f at h; have H := h
 clear h
 replace H := Option.bind_eq_some_iff.mp H
 obtain ⟨t351, A20, H⟩ := H
 try dsimp only at H
 have A2 := Aside0.mk A20; clear A20
 by_cases c3 : t351.size + 1 ≤ 9223372036854775807
 rotate_left
 · rw [if_neg c3] at H
   exact absurd H (by simp)
 rw [if_pos c3] at H
 have c3b0 := eq_true c3
 have c3b1 : decide (t351.size + 1 ≤ 9223372036854775807) = true := decide_eq_true c3
 try have c3b2 : (9223372036854775807 < t351.size + 1) = False := eq_false (Nat.not_lt.2 c3)
 replace H := Option.bind_eq_some_iff.mp H
 obtain ⟨t352, A40, H⟩ := H
 try dsimp only at H
 have A4 := Aside0.mk A40; clear A40
 by_cases c5 : (t351 ++ (⟨#[47]⟩ : ByteArray)).size + t352.size ≤ 9223372036854775807
 rotate_left
 · rw [if_neg c5] at H
   exact absurd H (by simp)
 rw [if_pos c5] at H
 have c5b0 := eq_true c5
 have c5b8 : t351.size + 1 + t352.size ≤ 9223372036854775807 := by have q_ := c5; simp only [ByteArray.size_append] at q_; first | exact q_ | (rw [Nat.add_assoc]; exact q_) | (simp only [Nat.add_assoc] at q_ ⊢; exact q_)
 have c5b7 : (9223372036854775807 < t351.size + 1 + t352.size) = False := eq_false (Nat.not_lt.2 c5b8)
 replace c5b8 := eq_true c5b8
 have c5b1 : decide ((t351 ++ (⟨#[47]⟩ : ByteArray)).size + t352.size ≤ 9223372036854775807) = true := decide_eq_true c5
 try have c5b2 : (9223372036854775807 < (t351 ++ (⟨#[47]⟩ : ByteArray)).size + t352.size) = False := eq_false (Nat.not_lt.2 c5)
 obtain rfl := Option.some.inj H
 go_enter Tryz.func64, Tryz.ntmps64
 try go_wp2_with (first | ((with_reducible refine gate_dst (N := 1) rfl ?_); refine zx 1 #[.bool a0_0, .int .u64 a0_1, .int .u64 a0_2, .int .i64 a0_3] 33 ?_; intro gb350 hg w6 hbox hb; have BK350 := Aside0.mk (hbox); have GW350 := zG HB hg; have GE350 := zG HB hg; replace HB := Aside0.mk (below_step (zB HB) hb); clear hb hbox hg))
 replace BK350 := Aside0.mk (blk_drew BK350.out); replace HB := Aside0.mk (below_drew1 HB.out)
 refine start_ (n := 9) (S := fun w' => w'.cell? ⟨gb350, 0, none⟩ = some (.bool a0_0) ∧ w'.cell? ⟨gb350, 1, none⟩ = some (.int .u64 a0_1) ∧ w'.cell? ⟨gb350, 2, none⟩ = some (.int .u64 a0_2) ∧ w'.cell? ⟨gb350, 3, none⟩ = some (.int .i64 a0_3)) (ds := []) #[false, false, false, false, false, false, false, false, false] (by kernel_rfl) rfl rfl ⟨zc BK350 0, zc BK350 1, zc BK350 2, zc BK350 3⟩ (fun hHeld => ?_); refine with_tabW r06_FormatPrefix.tab1 r06_FormatPrefix.bits1 (fun HT_ HW_ => ?_)
 generalize w6.drew = w7 at BK350 HB hHeld ⊢
 refine zp 0 3 HT_ ?_; refine zp 4 7 HT_ ?_; refine zt 1 4 HT_ HW_ hHeld ?_; refine zt 5 8 HT_ HW_ hHeld ?_; refine zo 2 5 HT_ (fun K hK => ?_)
 refine zg Tryz.func100 #[.agg #[.bool a0_0, .int .u64 a0_1, .int .u64 a0_2]] ?_
 with_reducible refine (r06_Format.calls k a0_0 a0_1 a0_2 t351 _ A2.out).mono ?_
 rintro e w8 ⟨rfl, hb⟩
 refine ⟨_, rfl, ?_⟩
 replace BK350 := zkb BK350 hb; replace HB := Aside0.mk (below_step (zB HB) hb)
 try clear hb
 refine hK.out _ _ ⟨zc BK350 0, zc BK350 1, zc BK350 2, zc BK350 3⟩ (fun hHeld => ?_)
 clear hK K
 refine zn 5 ?_; refine zp 3 6 HT_ ?_; refine zo 6 9 HT_ (fun K hK => ?_)
 refine zg Tryz.func66 #[.int .i64 a0_3] ?_
 with_reducible refine (r06_Number.calls k a0_3 t352 _ A4.out).mono ?_
 rintro e w9 ⟨rfl, hb⟩
 refine ⟨_, rfl, ?_⟩
 replace BK350 := zkb BK350 hb; replace HB := Aside0.mk (below_step (zB HB) hb)
 try clear hb
 refine hK.out _ _ ⟨zc BK350 0, zc BK350 1, zc BK350 2, zc BK350 3⟩ (fun hHeld => ?_)
 clear hK K
 refine zn 9 ?_; refine zp 7 10 HT_ ?_; refine zp 8 2 HT_ ?_; refine zd HT_ ?_
 try go_wp2
 go_ret
 exact ⟨zr, zB HB⟩
def r18_Policies.f  : Option (List ByteArray) := some (([(⟨#[102, 105, 114, 115, 116]⟩ : ByteArray), (⟨#[108, 97, 115, 116]⟩ : ByteArray), (⟨#[98, 115, 100]⟩ : ByteArray), (⟨#[108, 105, 110, 117, 120]⟩ : ByteArray), (⟨#[100, 114, 111, 112]⟩ : ByteArray)] : List ByteArray))
theorem r18_Policies.calls  (r : List ByteArray) (w : World) (h : r18_Policies.f  = some r) :
 Calls Tryz.prog 65 #[] w fun e w' => ∃ v0_ : Value, e = .returned (v0_) ∧ Kd.R Kd.string 9 w' w.heap.size (fun _ => True) v0_ r ∧ Below w.heap.size w w' := by
 have HB := Aside0.mk (Below.refl w.heap.size w)
 unfold r18_Policies.f at h; have H := h
 clear h
 obtain ⟨y353, hy353⟩ : ∃ y_ : List ByteArray, y_ = (([(⟨#[102, 105, 114, 115, 116]⟩ : ByteArray), (⟨#[108, 97, 115, 116]⟩ : ByteArray), (⟨#[98, 115, 100]⟩ : ByteArray), (⟨#[108, 105, 110, 117, 120]⟩ : ByteArray), (⟨#[100, 114, 111, 112]⟩ : ByteArray)] : List ByteArray)) := ⟨_, rfl⟩
 rw [← hy353] at H; try dsimp only [Option.bind_some] at H
 have Ny353 := Aside0.mk hy353; clear hy353
 obtain rfl := Option.some.inj H
 go_enter Tryz.func65, Tryz.ntmps65
 go_wp2_with (first | ((with_reducible refine gate_dst (N := 1) rfl ?_); refine Kd.R_lit Kd.string _ 9 ?hg (N := 1) ?hd (xs := ([(⟨#[102, 105, 114, 115, 116]⟩ : ByteArray), (⟨#[108, 97, 115, 116]⟩ : ByteArray), (⟨#[98, 115, 100]⟩ : ByteArray), (⟨#[108, 105, 110, 117, 120]⟩ : ByteArray), (⟨#[100, 114, 111, 112]⟩ : ByteArray)] : List ByteArray)) (inner := [.string (⟨#[102, 105, 114, 115, 116]⟩ : ByteArray), .string (⟨#[108, 97, 115, 116]⟩ : ByteArray), .string (⟨#[98, 115, 100]⟩ : ByteArray), .string (⟨#[108, 105, 110, 117, 120]⟩ : ByteArray), .string (⟨#[100, 114, 111, 112]⟩ : ByteArray)]) (ok := fun _ => True) (okp := fun _ => True) ?hr ?hp (fun _ hk => hk) trivial (Below.refl _ _) (Nat.le_refl _) (by simp) ?_; (case hd => rfl); (case hg => rfl); (case hr => first | (go_simp; done) | (go_simp; rfl)); (case hp => exact (Reps.one (show Kd.M Kd.string _ _ _ (⟨#[102, 105, 114, 115, 116]⟩ : ByteArray) [.string (⟨#[102, 105, 114, 115, 116]⟩ : ByteArray)] from rfl) (Reps.one (show Kd.M Kd.string _ _ _ (⟨#[108, 97, 115, 116]⟩ : ByteArray) [.string (⟨#[108, 97, 115, 116]⟩ : ByteArray)] from rfl) (Reps.one (show Kd.M Kd.string _ _ _ (⟨#[98, 115, 100]⟩ : ByteArray) [.string (⟨#[98, 115, 100]⟩ : ByteArray)] from rfl) (Reps.one (show Kd.M Kd.string _ _ _ (⟨#[108, 105, 110, 117, 120]⟩ : ByteArray) [.string (⟨#[108, 105, 110, 117, 120]⟩ : ByteArray)] from rfl) (Reps.one (show Kd.M Kd.string _ _ _ (⟨#[100, 114, 111, 112]⟩ : ByteArray) [.string (⟨#[100, 114, 111, 112]⟩ : ByteArray)] from rfl) (Reps.none _ _))))))); intro v354 w1 ho2 hb hg_ hnew_; clear hg_ hnew_; (first | rw [← Ny353.out] at ho2 | (simp only [Int.reduceToNat] at ho2; rw [← Ny353.out] at ho2)); have HO355 := Aside0.mk (Kd.R_lower ho2 (below_size (zB HB))); replace HB := Aside0.mk (below_step (zB HB) hb); clear hb ho2))
 go_ret
 exact ⟨_, by first | rfl | (simp [errW_none, errW_some] <;> rfl) | (simp [*, errW_none, errW_some] <;> rfl), by (with_reducible repeat (first | apply Kd.R_alloc | apply Kd.R_drewN | apply Kd.R_drew)); exact HO355.out, by repeat (first | (with_reducible first | exact HB.out | apply below_alloc | apply pw_below_drewN | apply below_drew1) | exact HB.out)⟩
def r18_Apps.f  : Option (List ByteArray) := some (([(⟨#[114, 97, 119]⟩ : ByteArray), (⟨#[104, 116, 116, 112]⟩ : ByteArray), (⟨#[115, 109, 116, 112]⟩ : ByteArray), (⟨#[116, 108, 115]⟩ : ByteArray), (⟨#[100, 110, 115]⟩ : ByteArray)] : List ByteArray))
theorem r18_Apps.calls  (r : List ByteArray) (w : World) (h : r18_Apps.f  = some r) :
 Calls Tryz.prog 67 #[] w fun e w' => ∃ v0_ : Value, e = .returned (v0_) ∧ Kd.R Kd.string 9 w' w.heap.size (fun _ => True) v0_ r ∧ Below w.heap.size w w' := by
 have HB := Aside0.mk (Below.refl w.heap.size w)
 unfold r18_Apps.f at h; have H := h
 clear h
 obtain ⟨y356, hy356⟩ : ∃ y_ : List ByteArray, y_ = (([(⟨#[114, 97, 119]⟩ : ByteArray), (⟨#[104, 116, 116, 112]⟩ : ByteArray), (⟨#[115, 109, 116, 112]⟩ : ByteArray), (⟨#[116, 108, 115]⟩ : ByteArray), (⟨#[100, 110, 115]⟩ : ByteArray)] : List ByteArray)) := ⟨_, rfl⟩
 rw [← hy356] at H; try dsimp only [Option.bind_some] at H
 have Ny356 := Aside0.mk hy356; clear hy356
 obtain rfl := Option.some.inj H
 go_enter Tryz.func67, Tryz.ntmps67
 go_wp2_with (first | ((with_reducible refine gate_dst (N := 1) rfl ?_); refine Kd.R_lit Kd.string _ 9 ?hg (N := 1) ?hd (xs := ([(⟨#[114, 97, 119]⟩ : ByteArray), (⟨#[104, 116, 116, 112]⟩ : ByteArray), (⟨#[115, 109, 116, 112]⟩ : ByteArray), (⟨#[116, 108, 115]⟩ : ByteArray), (⟨#[100, 110, 115]⟩ : ByteArray)] : List ByteArray)) (inner := [.string (⟨#[114, 97, 119]⟩ : ByteArray), .string (⟨#[104, 116, 116, 112]⟩ : ByteArray), .string (⟨#[115, 109, 116, 112]⟩ : ByteArray), .string (⟨#[116, 108, 115]⟩ : ByteArray), .string (⟨#[100, 110, 115]⟩ : ByteArray)]) (ok := fun _ => True) (okp := fun _ => True) ?hr ?hp (fun _ hk => hk) trivial (Below.refl _ _) (Nat.le_refl _) (by simp) ?_; (case hd => rfl); (case hg => rfl); (case hr => first | (go_simp; done) | (go_simp; rfl)); (case hp => exact (Reps.one (show Kd.M Kd.string _ _ _ (⟨#[114, 97, 119]⟩ : ByteArray) [.string (⟨#[114, 97, 119]⟩ : ByteArray)] from rfl) (Reps.one (show Kd.M Kd.string _ _ _ (⟨#[104, 116, 116, 112]⟩ : ByteArray) [.string (⟨#[104, 116, 116, 112]⟩ : ByteArray)] from rfl) (Reps.one (show Kd.M Kd.string _ _ _ (⟨#[115, 109, 116, 112]⟩ : ByteArray) [.string (⟨#[115, 109, 116, 112]⟩ : ByteArray)] from rfl) (Reps.one (show Kd.M Kd.string _ _ _ (⟨#[116, 108, 115]⟩ : ByteArray) [.string (⟨#[116, 108, 115]⟩ : ByteArray)] from rfl) (Reps.one (show Kd.M Kd.string _ _ _ (⟨#[100, 110, 115]⟩ : ByteArray) [.string (⟨#[100, 110, 115]⟩ : ByteArray)] from rfl) (Reps.none _ _))))))); intro v357 w1 ho2 hb hg_ hnew_; clear hg_ hnew_; (first | rw [← Ny356.out] at ho2 | (simp only [Int.reduceToNat] at ho2; rw [← Ny356.out] at ho2)); have HO358 := Aside0.mk (Kd.R_lower ho2 (below_size (zB HB))); replace HB := Aside0.mk (below_step (zB HB) hb); clear hb ho2))
 go_ret
 exact ⟨_, by first | rfl | (simp [errW_none, errW_some] <;> rfl) | (simp [*, errW_none, errW_some] <;> rfl), by (with_reducible repeat (first | apply Kd.R_alloc | apply Kd.R_drewN | apply Kd.R_drew)); exact HO358.out, by repeat (first | (with_reducible first | exact HB.out | apply below_alloc | apply pw_below_drewN | apply below_drew1) | exact HB.out)⟩
end Go.Proofs.YtnphnhkinjppjaaGreatDoor.Q
end

section
set_option maxHeartbeats 8000000
set_option maxRecDepth 100000
namespace Go.Proofs.YtnphnhkinjppjaaGreatDoor.Q
open Go.RowKit Go.Proofs.YtnphnhkinjppjaaGreatDoorW.PrintWords Go.Proofs.YtnphnhkinjppjaaGreatDoorW.PrintLast Go.Proofs.YtnphnhkinjppjaaGreatDoorW.PrintMore
def rsPol (lit : ByteArray) (n : Int) (s : ByteArray) : ByteArray := if n = 1 then s else s ++ (lit ++ rdOf ByteArray.empty polList (n - 1))
def rsNum (lit t : ByteArray) (n u : Int) (s : ByteArray) : ByteArray := if n = u then s else s ++ (lit ++ t)
def rsSvc (s t : ByteArray) (x : S74) : ByteArray := (s ++ (if x.f0 = 6 then ⟨#[32, 115, 101, 114, 118, 105, 99, 101, 32, 116, 99, 112, 32]⟩ else ⟨#[32, 115, 101, 114, 118, 105, 99, 101, 32, 117, 100, 112, 32]⟩)) ++ ((t ++ ⟨#[32]⟩) ++ rdOf ByteArray.empty appList x.f2)
def rsFold : List S74 → List ByteArray → ByteArray → ByteArray
  | x :: xs, t :: ts, s => rsFold xs ts (rsSvc s t x)
  | _, _, s => s
def rsList (k : Nat) : List S74 → Option (List ByteArray)
  | [] => some []
  | x :: xs => (r06_Number.f k x.f1).bind fun t => (rsList k xs).bind fun ts => some (t :: ts)
def rsAll (a : S36) (fp t4 t5 t7 : ByteArray) (ts : List ByteArray) : ByteArray :=
  rsFold a.f8 ts (rsNum ⟨#[32, 118, 97, 108, 117, 101, 32]⟩ t7 a.f7 1 ((fun s => if a.f6 = true then s ++ ⟨#[32, 115, 116, 97, 109, 112, 115]⟩ else s) (rsNum ⟨#[32, 119, 105, 110, 100, 111, 119, 32]⟩ t5 a.f5 8192 (rsNum ⟨#[32, 104, 111, 112, 115, 32]⟩ t4 a.f4 0 (rsPol ⟨#[32, 102, 114, 97, 103, 32]⟩ a.f3 (rsPol ⟨#[32, 112, 111, 108, 105, 99, 121, 32]⟩ a.f2 (((⟨#[104, 111, 115, 116, 32]⟩ ++ a.f0) ++ ⟨#[32]⟩) ++ fp))))))) ++ ⟨#[59]⟩
def r18_Statement.g (k : Nat) (a : S36) : Option ByteArray :=
  (r06_FormatPrefix.f k a.f1.f0.f0 a.f1.f0.f1 a.f1.f0.f2 a.f1.f1).bind fun fp => (r06_Number.f k a.f4).bind fun t4 => (r06_Number.f k a.f5).bind fun t5 => (r06_Number.f k a.f7).bind fun t7 => (rsList k a.f8).bind fun ts =>
    if (fineB a && decide (fp.size ≤ 1000) && decide (t4.size ≤ 50) && decide (t5.size ≤ 50) && decide (t7.size ≤ 50) && ts.all fun t => decide (t.size ≤ 50)) = true then some (rsAll a fp t4 t5 t7 ts) else none
def r18_Statement.f (k : Nat) (a0 : ByteArray) (a1 : Bool) (a2 a3 a4 a5 a6 a7 a8 : Int) (a9 : Bool) (a10 : Int) (l : List S74) : Option ByteArray := r18_Statement.g k ⟨a0, ⟨⟨a1, a2, a3⟩, a4⟩, a5, a6, a7, a8, a9, a10, l⟩
theorem pol_size (n : Int) : (rdOf ByteArray.empty polList n).size ≤ 10 := by
  unfold rdOf polList
  rcases n.toNat with _ | _ | _ | _ | _ | i <;> first | decide | simp
theorem rsPol_size (lit : ByteArray) (n : Int) (s : ByteArray) : (rsPol lit n s).size ≤ s.size + lit.size + 10 := by
  unfold rsPol
  split
  · omega
  · rw [ByteArray.size_append, ByteArray.size_append]; have := pol_size (n - 1); omega
theorem rsNum_size (lit t : ByteArray) (n u : Int) (s : ByteArray) : (rsNum lit t n u s).size ≤ s.size + lit.size + t.size := by
  unfold rsNum
  split
  · omega
  · rw [ByteArray.size_append, ByteArray.size_append]; omega
theorem pro13 (n : Int) : (if n = 6 then ⟨#[32, 115, 101, 114, 118, 105, 99, 101, 32, 116, 99, 112, 32]⟩ else ⟨#[32, 115, 101, 114, 118, 105, 99, 101, 32, 117, 100, 112, 32]⟩ : ByteArray).size = 13 := by split <;> rfl
theorem stamps_size (b : Bool) (s : ByteArray) : (if b = true then s ++ ⟨#[32, 115, 116, 97, 109, 112, 115]⟩ else s).size ≤ s.size + 7 := by
  split
  · rw [ByteArray.size_append]; have : (⟨#[32, 115, 116, 97, 109, 112, 115]⟩ : ByteArray).size = 7 := rfl; omega
  · omega
theorem rsList.mono (k : Nat) : ∀ l, LeO (rsList k l) (rsList (k + 1) l)
  | [] => LeO.refl _
  | x :: xs => LeO.bind (r06_Number.mono _ _) fun _ => LeO.bind (rsList.mono k xs) fun _ => LeO.refl _
theorem r18_Statement.mono (a0 : ByteArray) (a1 : Bool) (a2 a3 a4 a5 a6 a7 a8 : Int) (a9 : Bool) (a10 : Int) (l : List S74) (k : Nat) : LeO (r18_Statement.f k a0 a1 a2 a3 a4 a5 a6 a7 a8 a9 a10 l) (r18_Statement.f (k + 1) a0 a1 a2 a3 a4 a5 a6 a7 a8 a9 a10 l) :=
  LeO.bind (r06_FormatPrefix.mono _ _ _ _ _) fun _ => LeO.bind (r06_Number.mono _ _) fun _ => LeO.bind (r06_Number.mono _ _) fun _ => LeO.bind (r06_Number.mono _ _) fun _ => LeO.bind (rsList.mono _ _) fun _ => LeO.refl _
theorem rsList_len {k : Nat} : ∀ {l ts}, rsList k l = some ts → ts.length = l.length
  | [], ts, h => by cases Option.some.inj h; rfl
  | x :: xs, ts, h => by
    obtain ⟨t, _, h⟩ := Option.bind_eq_some_iff.1 h
    obtain ⟨ts', h2, h⟩ := Option.bind_eq_some_iff.1 h
    cases Option.some.inj h
    rw [List.length_cons, List.length_cons, rsList_len h2]
theorem rsList_at {k : Nat} : ∀ {l ts}, rsList k l = some ts → ∀ (i : Nat) (hi : i < l.length) (hj : i < ts.length), r06_Number.f k l[i].f1 = some ts[i]
  | x :: xs, ts, h, i, hi, hj => by
    obtain ⟨t, h1, h⟩ := Option.bind_eq_some_iff.1 h
    obtain ⟨ts', h2, h⟩ := Option.bind_eq_some_iff.1 h
    cases Option.some.inj h
    cases i with
    | zero => exact h1
    | succ i => exact rsList_at h2 i (Nat.lt_of_succ_lt_succ hi) (Nat.lt_of_succ_lt_succ hj)
theorem rsFold_at {l : List S74} {ts : List ByteArray} {i : Nat} (hi : i < l.length) (hj : i < ts.length) (s : ByteArray) : rsFold (l.drop i) (ts.drop i) s = rsFold (l.drop (i + 1)) (ts.drop (i + 1)) (rsSvc s ts[i] l[i]) := by
  rw [List.drop_eq_getElem_cons hi, List.drop_eq_getElem_cons hj, rsFold]
theorem rsFold_end {l : List S74} {ts : List ByteArray} {i : Nat} (hi : l.length ≤ i) (s : ByteArray) : rsFold (l.drop i) (ts.drop i) s = s := by
  rw [List.drop_of_length_le hi, rsFold.eq_def]
theorem r18_Statement.walk (k : Nat) (a : S36) (Ab : Option Addr) (cb : Nat) (r : ByteArray) (w : World) (hC : Kd.C k74 w Ab a.f8.length a.f8) (h : r18_Statement.g k a = some r) :
    Calls Tryz.prog 46 #[.agg (asC a (.slice Ab a.f8.length cb))] w fun e w' => e = .returned (.string r) ∧ Below w.heap.size w w' := by
  have hu := Tryz.underlying36
  have hup := Tryz.underlying33
  have hus := Tryz.underlying74
  obtain ⟨fp, e1, h⟩ := Option.bind_eq_some_iff.1 h
  obtain ⟨t4, e4, h⟩ := Option.bind_eq_some_iff.1 h
  obtain ⟨t5, e5, h⟩ := Option.bind_eq_some_iff.1 h
  obtain ⟨t7, e7, h⟩ := Option.bind_eq_some_iff.1 h
  obtain ⟨ts, e8, h⟩ := Option.bind_eq_some_iff.1 h
  split at h
  case isFalse => cases h
  rename_i hok
  have hr := Option.some.inj h
  simp only [Bool.and_eq_true, decide_eq_true_eq, List.all_eq_true] at hok
  obtain ⟨⟨⟨⟨⟨hfine, hfp⟩, h4⟩, h5⟩, h7⟩, h8⟩ := hok
  have HF := Aside0.mk (fine_of hfine)
  have HZ : Aside0 (fp.size ≤ 1000 ∧ t4.size ≤ 50 ∧ t5.size ≤ 50 ∧ t7.size ≤ 50) := ⟨hfp, h4, h5, h7⟩
  have HT := Aside0.mk h8
  have E1 := Aside0.mk e1
  have E4 := Aside0.mk e4
  have E5 := Aside0.mk e5
  have E7 := Aside0.mk e7
  have E8 := Aside0.mk e8
  have HRR := Aside0.mk hr
  have HSV := Aside0.mk hC
  have z0 := HF.out.f0
  have z1 : (9223372036854775807 < 5 + a.f0.size) = False := eq_false (by omega)
  have z2 : (9223372036854775807 < 5 + a.f0.size + 1) = False := eq_false (by omega)
  have z3 : (9223372036854775807 < 5 + a.f0.size + 1 + fp.size) = False := eq_false (by omega)
  have HZ0 := Aside0.mk z0
  rename_i h_1 h_2 h_3 h_4 h_5
  clear h_1 h_2 h_3 h_4 h_5 h hr hfine hfp h4 h5 h7 h8 e1 e4 e5 e7 e8 hC z0
  go_enter Tryz.func46, Tryz.ntmps46
  go_upto_region 1 with (fail)
  obtain ⟨ga, hga⟩ : ∃ x, w.heap.size = x := ⟨_, rfl⟩
  have HR : Aside0 (RCk w (w.alloc (.cells (asC a (.slice Ab a.f8.length cb)) 36)) w.heap.size a Ab cb) := ⟨heap_alloc_new _ _, Kd.C_below HSV.out (below_alloc (Below.refl _ _) _), below_alloc (Below.refl _ _) _⟩
  rw [hga] at HR
  have HGA : Aside0 (w.heap.size ≤ ga) := ⟨by omega⟩
  simp only [hga]
  clear hga HSV
  change Code.wp _ _ _ _ (w.alloc (.cells (asC a (.slice Ab a.f8.length cb)) 36))
  generalize w.alloc (.cells (asC a (.slice Ab a.f8.length cb)) 36) = W1 at HR ⊢
  refine start_ (n := 9) (S := fun w' => w'.cell? ⟨ga, 0, none⟩ = some (.string a.f0) ∧ w'.cell? ⟨ga, 1, none⟩ = some (.bool a.f1.f0.f0) ∧ w'.cell? ⟨ga, 2, none⟩ = some (.int .u64 a.f1.f0.f1) ∧ w'.cell? ⟨ga, 3, none⟩ = some (.int .u64 a.f1.f0.f2) ∧ w'.cell? ⟨ga, 4, none⟩ = some (.int .i64 a.f1.f1)) (ds := []) #[false, false, false, false, false, false, false, false, false] (by kernel_rfl) rfl rfl ⟨zc (Aside0.mk HR.out.blk) 0, zc (Aside0.mk HR.out.blk) 1, zc (Aside0.mk HR.out.blk) 2, zc (Aside0.mk HR.out.blk) 3, zc (Aside0.mk HR.out.blk) 4⟩ (fun hHeld => ?_)
  replace HR := Aside0.mk (HR.out.below (below_drew (Below.refl _ _)))
  generalize W1.drew = V1 at HR hHeld ⊢
  refine zp0 0 6 ?_; refine zt0 1 7 hHeld ?_; refine zp0 2 8 ?_; refine zp0 3 9 ?_; refine zp0 4 10 ?_; refine zt0 5 11 hHeld ?_; refine zo0 6 12 (fun K hK => ?_)
  refine zg Tryz.func64 #[.agg #[.bool a.f1.f0.f0, .int .u64 a.f1.f0.f1, .int .u64 a.f1.f0.f2, .int .i64 a.f1.f1]] ?_
  refine (r06_FormatPrefix.calls k a.f1.f0.f0 a.f1.f0.f1 a.f1.f0.f2 a.f1.f1 fp V1 E1.out).mono ?_
  rintro e V2 ⟨rfl, hb⟩
  refine ⟨_, rfl, ?_⟩
  replace HR := Aside0.mk (HR.out.below hb)
  refine hK.out _ _ ⟨zc (Aside0.mk HR.out.blk) 0, zc (Aside0.mk HR.out.blk) 1, zc (Aside0.mk HR.out.blk) 2, zc (Aside0.mk HR.out.blk) 3, zc (Aside0.mk HR.out.blk) 4⟩ (fun hHeld => ?_)
  clear hK K hb
  refine zn 12 ?_; refine zp0 7 13 ?_; refine zp0 8 3 ?_
  refine zd0 ?_
  clear z1 z2 z3
  obtain ⟨s0, hs0⟩ : ∃ s0, (((⟨#[104, 111, 115, 116, 32]⟩ ++ a.f0) ++ ⟨#[32]⟩) ++ fp : ByteArray) = s0 := ⟨_, rfl⟩
  have HS0 : Aside0 (s0.size ≤ 1200) := ⟨by rw [← hs0, ByteArray.size_append, ByteArray.size_append, ByteArray.size_append]; have := HZ.out.1; have := HZ0.out; have : (⟨#[104, 111, 115, 116, 32]⟩ : ByteArray).size = 5 := rfl; have : (⟨#[32]⟩ : ByteArray).size = 1 := rfl; omega⟩
  have HQ0 := Aside0.mk hs0
  simp only [hs0]
  clear hs0 hHeld
  obtain ⟨d0, d1, d2, d3, d4, d5, d6, d7, d8, d9, d10, d11⟩ := zc12 (Aside0.mk HR.out.blk)
  go_upto_if 16 with (fail)
  go_cut [3] (fun v3 wc => v3 = .string (rsPol ⟨#[32, 112, 111, 108, 105, 99, 121, 32]⟩ a.f2 s0) ∧ Aside0 (RCk w wc ga a Ab cb))
  case first =>
    by_cases hp : a.f2 = 1
    · have c5 : (a.f2 != 1) = false := by rw [hp]; rfl
      have c6 : (a.f2 == 1) = true := by rw [hp]; rfl
      have HP := Aside0.mk hp
      clear hp
      (first | rw [c5] | skip)
      go_wp2
      go_meet
      case rel => exact ⟨by rw [rsPol, if_pos HP.out], HR⟩
    · have c5 : (a.f2 != 1) = true := bne_iff_ne.mpr hp
      have HP := Aside0.mk hp
      clear hp
      obtain ⟨ji, hji⟩ : ∃ x, wrap64 (a.f2 - 1) = x := ⟨_, rfl⟩
      have hjj : ji = a.f2 - 1 := by rw [← hji]; have := HF.out.f2; unfold wrap64; omega
      have HJ := Aside0.mk hjj
      have q0 : 0 ≤ ji := by have := HF.out.f2; omega
      have q1 : ji < (5 : Int) := by have := HF.out.f2; omega
      clear hjj
      (first | rw [c5] | skip)
      go_upto_region 3 with (fail)
      clear c5 d0 d1 d2 d3 d4 d5 d6 d7 d8 d9 d10 d11
      refine start_ (n := 10) (S := fun w' => w'.cell? ⟨ga, 0, none⟩ = some (.string a.f0) ∧ w'.cell? ⟨ga, 5, none⟩ = some (.int .i64 a.f2)) (ds := []) #[false, false, false, false, false, false, false, false, false, false] (by kernel_rfl) rfl rfl ⟨zc (Aside0.mk HR.out.blk) 0, zc (Aside0.mk HR.out.blk) 5⟩ (fun hHeld => ?_)
      replace HR := Aside0.mk (HR.out.below (below_drew (Below.refl _ _)))
      generalize World.drew _ = V1 at HR hHeld ⊢
      refine zp0 0 17 ?_; refine zp0 2 19 ?_; refine zt0 3 20 hHeld ?_; refine zp0 4 21 ?_
      rw [hji]
      clear hji
      refine zo0 1 18 (fun K hK => ?_)
      refine zg Tryz.func65 #[] ?_
      with_reducible refine (r18_Policies.calls polList V1 rfl).mono ?_
      rintro e V2 ⟨v, rfl, hlist, hb⟩
      refine ⟨_, rfl, ?_⟩
      replace HR := Aside0.mk (HR.out.below hb)
      clear hb
      obtain ⟨Al, cl, hv⟩ := Kd.R_slice hlist
      subst hv
      obtain ⟨adl, hal, hx⟩ := Kd.at_string (Kd.R_reads' hlist).2.2 ji q0 q1
      subst hal
      have h5l : polList.length = 5 := rfl
      rw [h5l]
      clear hlist
      have hps : (rdOf ByteArray.empty polList ji).size ≤ 10 := by
        have hns : ji = 0 ∨ ji = 1 ∨ ji = 2 ∨ ji = 3 ∨ ji = 4 := by omega
        rcases hns with rfl | rfl | rfl | rfl | rfl <;> decide
      obtain ⟨nm, hnm⟩ : ∃ x, rdOf ByteArray.empty polList ji = x := ⟨_, rfl⟩
      rw [hnm] at hx hps
      have HNM := Aside0.mk hnm
      have z1 : (9223372036854775807 < 8 + nm.size) = False := eq_false (by omega)
      have z2 : (9223372036854775807 < s0.size + (8 + nm.size)) = False := eq_false (by have := HS0.out; omega)
      clear hnm hps
      replace q0 := eq_true q0
      replace q1 := eq_true q1
      refine hK.out _ _ ⟨zc (Aside0.mk HR.out.blk) 0, zc (Aside0.mk HR.out.blk) 5⟩ (fun hHeld => ?_)
      clear hK K
      refine zn 18 ?_; refine zp0 5 22 ?_
      refine zo0 6 23 (fun K hK => ?_)
      refine value_ (w1 := ?_) (v := ?_) (by rfl) rfl ?_ ?_
      rotate_left 2
      · go_simp
        constructor
        · rfl
        · rfl
      refine hK.out _ _ ⟨zc (Aside0.mk HR.out.blk) 0, zc (Aside0.mk HR.out.blk) 5⟩ (fun hHeld => ?_)
      clear hK K
      refine zn 23 ?_; refine zp0 7 24 ?_; refine zp0 8 25 ?_; refine zp0 9 3 ?_
      refine zd0 ?_
      go_wp2
      go_meet
      case rel => exact ⟨by rw [rsPol, if_neg HP.out, ← HJ.out, HNM.out], HR⟩
  case rest =>
  obtain ⟨rfl, HRc⟩ := hcut
  replace HR := HRc
  clear d0 d1 d2 d3 d4 d5 d6 d7 d8 d9 d10 d11
  obtain ⟨s1, hs1⟩ : ∃ x, rsPol ⟨#[32, 112, 111, 108, 105, 99, 121, 32]⟩ a.f2 s0 = x := ⟨_, rfl⟩
  have HS1 : Aside0 (s1.size ≤ 1300) := ⟨by rw [← hs1]; have := rsPol_size ⟨#[32, 112, 111, 108, 105, 99, 121, 32]⟩ a.f2 s0; have : (⟨#[32, 112, 111, 108, 105, 99, 121, 32]⟩ : ByteArray).size = 8 := rfl; have := HS0.out; omega⟩
  have HQ1 := Aside0.mk hs1
  simp only [hs1]
  clear hs1 HRc
  obtain ⟨d0, d1, d2, d3, d4, d5, d6, d7, d8, d9, d10, d11⟩ := zc12 (Aside0.mk HR.out.blk)
  go_upto_if 28 with (fail)
  go_cut [3] (fun v3 wc => v3 = .string (rsPol ⟨#[32, 102, 114, 97, 103, 32]⟩ a.f3 s1) ∧ Aside0 (RCk w wc ga a Ab cb))
  case first =>
    by_cases hp : a.f3 = 1
    · have c5 : (a.f3 != 1) = false := by rw [hp]; rfl
      have c6 : (a.f3 == 1) = true := by rw [hp]; rfl
      have HP := Aside0.mk hp
      clear hp
      (first | rw [c5] | skip)
      go_wp2
      go_meet
      case rel => exact ⟨by rw [rsPol, if_pos HP.out], HR⟩
    · have c5 : (a.f3 != 1) = true := bne_iff_ne.mpr hp
      have HP := Aside0.mk hp
      clear hp
      obtain ⟨ji, hji⟩ : ∃ x, wrap64 (a.f3 - 1) = x := ⟨_, rfl⟩
      have hjj : ji = a.f3 - 1 := by rw [← hji]; have := HF.out.f3; unfold wrap64; omega
      have HJ := Aside0.mk hjj
      have q0 : 0 ≤ ji := by have := HF.out.f3; omega
      have q1 : ji < (5 : Int) := by have := HF.out.f3; omega
      clear hjj
      (first | rw [c5] | skip)
      go_upto_region 5 with (fail)
      clear c5 d0 d1 d2 d3 d4 d5 d6 d7 d8 d9 d10 d11
      refine start_ (n := 10) (S := fun w' => w'.cell? ⟨ga, 0, none⟩ = some (.string a.f0) ∧ w'.cell? ⟨ga, 6, none⟩ = some (.int .i64 a.f3)) (ds := []) #[false, false, false, false, false, false, false, false, false, false] (by kernel_rfl) rfl rfl ⟨zc (Aside0.mk HR.out.blk) 0, zc (Aside0.mk HR.out.blk) 6⟩ (fun hHeld => ?_)
      replace HR := Aside0.mk (HR.out.below (below_drew (Below.refl _ _)))
      generalize World.drew _ = V1 at HR hHeld ⊢
      refine zp0 0 29 ?_; refine zp0 2 31 ?_; refine zt0 3 32 hHeld ?_; refine zp0 4 33 ?_
      rw [hji]
      clear hji
      refine zo0 1 30 (fun K hK => ?_)
      refine zg Tryz.func65 #[] ?_
      with_reducible refine (r18_Policies.calls polList V1 rfl).mono ?_
      rintro e V2 ⟨v, rfl, hlist, hb⟩
      refine ⟨_, rfl, ?_⟩
      replace HR := Aside0.mk (HR.out.below hb)
      clear hb
      obtain ⟨Al, cl, hv⟩ := Kd.R_slice hlist
      subst hv
      obtain ⟨adl, hal, hx⟩ := Kd.at_string (Kd.R_reads' hlist).2.2 ji q0 q1
      subst hal
      have h5l : polList.length = 5 := rfl
      rw [h5l]
      clear hlist
      have hps : (rdOf ByteArray.empty polList ji).size ≤ 10 := by
        have hns : ji = 0 ∨ ji = 1 ∨ ji = 2 ∨ ji = 3 ∨ ji = 4 := by omega
        rcases hns with rfl | rfl | rfl | rfl | rfl <;> decide
      obtain ⟨nm, hnm⟩ : ∃ x, rdOf ByteArray.empty polList ji = x := ⟨_, rfl⟩
      rw [hnm] at hx hps
      have HNM := Aside0.mk hnm
      have z1 : (9223372036854775807 < 6 + nm.size) = False := eq_false (by omega)
      have z2 : (9223372036854775807 < s1.size + (6 + nm.size)) = False := eq_false (by have := HS1.out; omega)
      clear hnm hps
      replace q0 := eq_true q0
      replace q1 := eq_true q1
      refine hK.out _ _ ⟨zc (Aside0.mk HR.out.blk) 0, zc (Aside0.mk HR.out.blk) 6⟩ (fun hHeld => ?_)
      clear hK K
      refine zn 30 ?_; refine zp0 5 34 ?_
      refine zo0 6 35 (fun K hK => ?_)
      refine value_ (w1 := ?_) (v := ?_) (by rfl) rfl ?_ ?_
      rotate_left 2
      · go_simp
        constructor
        · rfl
        · rfl
      refine hK.out _ _ ⟨zc (Aside0.mk HR.out.blk) 0, zc (Aside0.mk HR.out.blk) 6⟩ (fun hHeld => ?_)
      clear hK K
      refine zn 35 ?_; refine zp0 7 36 ?_; refine zp0 8 37 ?_; refine zp0 9 3 ?_
      refine zd0 ?_
      go_wp2
      go_meet
      case rel => exact ⟨by rw [rsPol, if_neg HP.out, ← HJ.out, HNM.out], HR⟩
  case rest =>
  obtain ⟨rfl, HRc⟩ := hcut
  replace HR := HRc
  clear d0 d1 d2 d3 d4 d5 d6 d7 d8 d9 d10 d11
  obtain ⟨s2, hs2⟩ : ∃ x, rsPol ⟨#[32, 102, 114, 97, 103, 32]⟩ a.f3 s1 = x := ⟨_, rfl⟩
  have HS2 : Aside0 (s2.size ≤ 1400) := ⟨by rw [← hs2]; have := rsPol_size ⟨#[32, 102, 114, 97, 103, 32]⟩ a.f3 s1; have : (⟨#[32, 102, 114, 97, 103, 32]⟩ : ByteArray).size = 6 := rfl; have := HS1.out; omega⟩
  have HQ2 := Aside0.mk hs2
  simp only [hs2]
  clear hs2 HRc
  obtain ⟨d0, d1, d2, d3, d4, d5, d6, d7, d8, d9, d10, d11⟩ := zc12 (Aside0.mk HR.out.blk)
  go_upto_if 40 with (fail)
  go_cut [3] (fun v3 wc => v3 = .string (rsNum ⟨#[32, 104, 111, 112, 115, 32]⟩ t4 a.f4 0 s2) ∧ Aside0 (RCk w wc ga a Ab cb))
  case first =>
    by_cases hp : a.f4 = 0
    · have c5 : (a.f4 != 0) = false := by rw [hp]; rfl
      have c6 : (a.f4 == 0) = true := by rw [hp]; rfl
      have HP := Aside0.mk hp
      clear hp
      (first | rw [c5] | skip)
      go_wp2
      go_meet
      case rel => exact ⟨by rw [rsNum, if_pos HP.out], HR⟩
    · have c5 : (a.f4 != 0) = true := bne_iff_ne.mpr hp
      have HP := Aside0.mk hp
      clear hp
      (first | rw [c5] | skip)
      go_wp2_with fail
      refine (r06_Number.calls k a.f4 t4 _ E4.out).mono ?_
      rintro e V2 ⟨rfl, hb⟩
      replace HR := Aside0.mk (HR.out.below hb)
      have z1 : (9223372036854775807 < 6 + t4.size) = False := eq_false (by have := HZ.out; omega)
      have z2 : (9223372036854775807 < s2.size + (6 + t4.size)) = False := eq_false (by have := HS2.out; have := HZ.out; omega)
      clear hb c5 d0 d1 d2 d3 d4 d5 d6 d7 d8 d9 d10 d11
      go_wp2
      go_meet
      case rel => exact ⟨by rw [rsNum, if_neg HP.out], HR⟩
  case rest =>
  obtain ⟨rfl, HRc⟩ := hcut
  replace HR := HRc
  clear d0 d1 d2 d3 d4 d5 d6 d7 d8 d9 d10 d11
  obtain ⟨s3, hs3⟩ : ∃ x, rsNum ⟨#[32, 104, 111, 112, 115, 32]⟩ t4 a.f4 0 s2 = x := ⟨_, rfl⟩
  have HS3 : Aside0 (s3.size ≤ 1500) := ⟨by rw [← hs3]; have := rsNum_size ⟨#[32, 104, 111, 112, 115, 32]⟩ t4 a.f4 0 s2; have : (⟨#[32, 104, 111, 112, 115, 32]⟩ : ByteArray).size = 6 := rfl; have := HS2.out; have := HZ.out; omega⟩
  have HQ3 := Aside0.mk hs3
  simp only [hs3]
  clear hs3 HRc
  obtain ⟨d0, d1, d2, d3, d4, d5, d6, d7, d8, d9, d10, d11⟩ := zc12 (Aside0.mk HR.out.blk)
  go_upto_if 49 with (fail)
  go_cut [3] (fun v3 wc => v3 = .string (rsNum ⟨#[32, 119, 105, 110, 100, 111, 119, 32]⟩ t5 a.f5 8192 s3) ∧ Aside0 (RCk w wc ga a Ab cb))
  case first =>
    by_cases hp : a.f5 = 8192
    · have c5 : (a.f5 != 8192) = false := by rw [hp]; rfl
      have c6 : (a.f5 == 8192) = true := by rw [hp]; rfl
      have HP := Aside0.mk hp
      clear hp
      (first | rw [c5] | skip)
      go_wp2
      go_meet
      case rel => exact ⟨by rw [rsNum, if_pos HP.out], HR⟩
    · have c5 : (a.f5 != 8192) = true := bne_iff_ne.mpr hp
      have HP := Aside0.mk hp
      clear hp
      (first | rw [c5] | skip)
      go_wp2_with fail
      refine (r06_Number.calls k a.f5 t5 _ E5.out).mono ?_
      rintro e V2 ⟨rfl, hb⟩
      replace HR := Aside0.mk (HR.out.below hb)
      have z1 : (9223372036854775807 < 8 + t5.size) = False := eq_false (by have := HZ.out; omega)
      have z2 : (9223372036854775807 < s3.size + (8 + t5.size)) = False := eq_false (by have := HS3.out; have := HZ.out; omega)
      clear hb c5 d0 d1 d2 d3 d4 d5 d6 d7 d8 d9 d10 d11
      go_wp2
      go_meet
      case rel => exact ⟨by rw [rsNum, if_neg HP.out], HR⟩
  case rest =>
  obtain ⟨rfl, HRc⟩ := hcut
  replace HR := HRc
  clear d0 d1 d2 d3 d4 d5 d6 d7 d8 d9 d10 d11
  obtain ⟨s4, hs4⟩ : ∃ x, rsNum ⟨#[32, 119, 105, 110, 100, 111, 119, 32]⟩ t5 a.f5 8192 s3 = x := ⟨_, rfl⟩
  have HS4 : Aside0 (s4.size ≤ 1600) := ⟨by rw [← hs4]; have := rsNum_size ⟨#[32, 119, 105, 110, 100, 111, 119, 32]⟩ t5 a.f5 8192 s3; have : (⟨#[32, 119, 105, 110, 100, 111, 119, 32]⟩ : ByteArray).size = 8 := rfl; have := HS3.out; have := HZ.out; omega⟩
  have HQ4 := Aside0.mk hs4
  simp only [hs4]
  clear hs4 HRc
  obtain ⟨d0, d1, d2, d3, d4, d5, d6, d7, d8, d9, d10, d11⟩ := zc12 (Aside0.mk HR.out.blk)
  go_upto_if 57 with (fail)
  go_cut [3] (fun v3 wc => v3 = .string (if a.f6 = true then s4 ++ ⟨#[32, 115, 116, 97, 109, 112, 115]⟩ else s4) ∧ Aside0 (RCk w wc ga a Ab cb))
  case first =>
    have z1 : (9223372036854775807 < s4.size + 7) = False := eq_false (by have := HS4.out; omega)
    cases hst : a.f6
    · rw [hst] at d9
      (first | rw [hst] | skip)
      go_wp2
      go_meet
      case rel => exact ⟨by rw [hst, if_neg Bool.false_ne_true], HR⟩
    · rw [hst] at d9
      (first | rw [hst] | skip)
      go_wp2
      go_meet
      case rel => exact ⟨by rw [hst, if_pos rfl], HR⟩
  case rest =>
  obtain ⟨rfl, HRc⟩ := hcut
  replace HR := HRc
  clear d0 d1 d2 d3 d4 d5 d6 d7 d8 d9 d10 d11
  obtain ⟨s5, hs5⟩ : ∃ x, (if a.f6 = true then s4 ++ ⟨#[32, 115, 116, 97, 109, 112, 115]⟩ else s4) = x := ⟨_, rfl⟩
  have HS5 : Aside0 (s5.size ≤ 1700) := ⟨by rw [← hs5]; have := stamps_size a.f6 s4; have := HS4.out; omega⟩
  have HQ5 := Aside0.mk hs5
  simp only [hs5]
  clear hs5 HRc
  obtain ⟨d0, d1, d2, d3, d4, d5, d6, d7, d8, d9, d10, d11⟩ := zc12 (Aside0.mk HR.out.blk)
  go_upto_if 62 with (fail)
  go_cut [3] (fun v3 wc => v3 = .string (rsNum ⟨#[32, 118, 97, 108, 117, 101, 32]⟩ t7 a.f7 1 s5) ∧ Aside0 (RCk w wc ga a Ab cb))
  case first =>
    by_cases hp : a.f7 = 1
    · have c5 : (a.f7 != 1) = false := by rw [hp]; rfl
      have c6 : (a.f7 == 1) = true := by rw [hp]; rfl
      have HP := Aside0.mk hp
      clear hp
      (first | rw [c5] | skip)
      go_wp2
      go_meet
      case rel => exact ⟨by rw [rsNum, if_pos HP.out], HR⟩
    · have c5 : (a.f7 != 1) = true := bne_iff_ne.mpr hp
      have HP := Aside0.mk hp
      clear hp
      (first | rw [c5] | skip)
      go_wp2_with fail
      refine (r06_Number.calls k a.f7 t7 _ E7.out).mono ?_
      rintro e V2 ⟨rfl, hb⟩
      replace HR := Aside0.mk (HR.out.below hb)
      have z1 : (9223372036854775807 < 7 + t7.size) = False := eq_false (by have := HZ.out; omega)
      have z2 : (9223372036854775807 < s5.size + (7 + t7.size)) = False := eq_false (by have := HS5.out; have := HZ.out; omega)
      clear hb c5 d0 d1 d2 d3 d4 d5 d6 d7 d8 d9 d10 d11
      go_wp2
      go_meet
      case rel => exact ⟨by rw [rsNum, if_neg HP.out], HR⟩
  case rest =>
  obtain ⟨rfl, HRc⟩ := hcut
  replace HR := HRc
  clear d0 d1 d2 d3 d4 d5 d6 d7 d8 d9 d10 d11
  obtain ⟨s6, hs6⟩ : ∃ x, rsNum ⟨#[32, 118, 97, 108, 117, 101, 32]⟩ t7 a.f7 1 s5 = x := ⟨_, rfl⟩
  have HS6 : Aside0 (s6.size ≤ 1800) := ⟨by rw [← hs6]; have := rsNum_size ⟨#[32, 118, 97, 108, 117, 101, 32]⟩ t7 a.f7 1 s5; have : (⟨#[32, 118, 97, 108, 117, 101, 32]⟩ : ByteArray).size = 7 := rfl; have := HS5.out; have := HZ.out; omega⟩
  have HQ6 := Aside0.mk hs6
  simp only [hs6]
  clear hs6 HRc
  have HSF : Aside0 (rsFold a.f8 ts s6 ++ ⟨#[59]⟩ = r) := ⟨by rw [← HRR.out, rsAll, HQ0.out, HQ1.out, HQ2.out, HQ3.out, HQ4.out]; dsimp only; rw [HQ5.out, HQ6.out]⟩
  have HTL : Aside0 (ts.length = a.f8.length) := ⟨rsList_len E8.out⟩
  go_upto_region 15 with (fail)
  go_loopg [3, 4] (a.f8.length + 1) (fun gg v3 v4 wr => ∃ (j : Nat) (s : ByteArray), v3 = .string s ∧ v4 = .int .i64 (j : Int) ∧ Aside0 (gg + j = a.f8.length + 1 ∧ j ≤ a.f8.length) ∧ Aside0 (rsFold (a.f8.drop j) (ts.drop j) s ++ ⟨#[59]⟩ = r ∧ s.size ≤ 2000 + 200 * j) ∧ Aside0 (RCk w wr ga a Ab cb))
  case atStart => exact ⟨0, s6, rfl, rfl, ⟨by omega, by omega⟩, ⟨by rw [List.drop_zero, List.drop_zero]; exact HSF.out, by have := HS6.out; omega⟩, HR⟩
  case round =>
    clear HR HSF
    obtain ⟨j, s, rfl, rfl, HJ, HQ, HR⟩ := hrel
    obtain ⟨m, hm⟩ : ∃ m, a.f8.length = m := ⟨_, rfl⟩
    have HM := Aside0.mk hm
    obtain ⟨d0, d1, d2, d3, d4, d5, d6, d7, d8, d9, d10, d11⟩ := zc12 (Aside0.mk HR.out.blk)
    rw [hm] at d11
    have b3 : m ≤ 1000000 := by have := HF.out.f8; omega
    by_cases hj : j < m
    · have b1 : decide ((j : Int) < (m : Int)) = true := decide_eq_true (by omega)
      have b2 : decide (j < m) = true := decide_eq_true hj
      obtain ⟨ads, hal, k0, k1, k2⟩ := at_T74 HR.out.svc (j : Int) (by omega) (by rw [HM.out]; omega)
      subst hal
      simp only [Int.toNat_natCast] at k0 k1 k2
      have HX := Aside0.mk (svc_mem (l := a.f8) (j := j) (by rw [HM.out]; exact hj))
      have hgx : rd_T74 a.f8 (j : Int) = a.f8[j]'(by rw [HM.out]; exact hj) := by unfold rd_T74; rw [Int.toNat_natCast, List.getD_eq_getElem?_getD, List.getElem?_eq_getElem (by rw [HM.out]; exact hj)]; rfl
      obtain ⟨t, ht⟩ : ∃ t, ts[j]'(by rw [HTL.out, HM.out]; exact hj) = t := ⟨_, rfl⟩
      have HNU : Aside0 (r06_Number.f k (rd_T74 a.f8 (j : Int)).f1 = some t) := ⟨by rw [hgx, ← ht]; exact rsList_at E8.out j _ _⟩
      have HTZ : Aside0 (t.size ≤ 50) := ⟨HT.out t (by rw [← ht]; exact List.getElem_mem _)⟩
      have HFO : Aside0 (rsFold (a.f8.drop (j + 1)) (ts.drop (j + 1)) (rsSvc s t (rd_T74 a.f8 (j : Int))) ++ ⟨#[59]⟩ = r) := ⟨by have h := HQ.out.1; rw [rsFold_at (by rw [HM.out]; exact hj) (by rw [HTL.out, HM.out]; exact hj), ht, ← hgx] at h; exact h⟩
      have HSM := Aside0.mk (HF.out.sv _ HX.out)
      obtain ⟨x, hx⟩ : ∃ x, rd_T74 a.f8 (j : Int) = x := ⟨_, rfl⟩
      rw [hx] at k0 k1 k2 HNU HFO HSM
      clear ht hx hgx HX
      have HJJ := Aside0.mk hj
      go_upto_region 18 with (fail)
      clear k0 k1 k2 d0 d1 d2 d3 d4 d5 d6 d7 d8 d9 d10 d11 hj
      obtain ⟨gx, hg⟩ : ∃ y, wr.heap.size = y := ⟨_, rfl⟩
      have HX : Aside0 ((wr.alloc (.cells #[.int .i64 x.f0, .int .i64 x.f1, .int .i64 x.f2] 74)).heap[wr.heap.size]? = some (.cells #[.int .i64 x.f0, .int .i64 x.f1, .int .i64 x.f2] 74 (0, 0))) := ⟨heap_alloc_new _ _⟩
      rw [hg] at HX
      simp only [hg]
      clear hg
      replace HR := Aside0.mk (HR.out.below (below_alloc (Below.refl _ _) (.cells #[.int .i64 x.f0, .int .i64 x.f1, .int .i64 x.f2] 74)))
      change Code.wp _ _ _ _ (wr.alloc (.cells #[.int .i64 x.f0, .int .i64 x.f1, .int .i64 x.f2] 74))
      generalize wr.alloc (.cells #[.int .i64 x.f0, .int .i64 x.f1, .int .i64 x.f2] 74) = W2 at HX HR ⊢
      obtain ⟨x0, x1, x2⟩ := zc3 HX
      go_upto_if 83 with (fail)
      go_cut [3] (fun v3 wc => v3 = .string (s ++ (if x.f0 = 6 then ⟨#[32, 115, 101, 114, 118, 105, 99, 101, 32, 116, 99, 112, 32]⟩ else ⟨#[32, 115, 101, 114, 118, 105, 99, 101, 32, 117, 100, 112, 32]⟩)) ∧ wc = W2)
      case first =>
        have z1 : (9223372036854775807 < s.size + 13) = False := eq_false (by have := HQ.out.2; have := HJJ.out; omega)
        by_cases hp : x.f0 = 6
        · have c5 : (x.f0 == 6) = true := beq_iff_eq.mpr hp
          have HP := Aside0.mk hp
          clear hp
          (first | rw [c5] | skip)
          go_wp2
          go_meet
          case rel => exact ⟨by rw [if_pos HP.out], rfl⟩
        · have c5 : (x.f0 == 6) = false := beq_eq_false_iff_ne.mpr hp
          have HP := Aside0.mk hp
          clear hp
          (first | rw [c5] | skip)
          go_wp2
          go_meet
          case rel => exact ⟨by rw [if_neg HP.out], rfl⟩
      case rest =>
      obtain ⟨rfl, rfl⟩ := hcut
      clear x0 x1 x2
      obtain ⟨s2, hs2⟩ : ∃ y, s ++ (if x.f0 = 6 then ⟨#[32, 115, 101, 114, 118, 105, 99, 101, 32, 116, 99, 112, 32]⟩ else ⟨#[32, 115, 101, 114, 118, 105, 99, 101, 32, 117, 100, 112, 32]⟩) = y := ⟨_, rfl⟩
      have HS2 : Aside0 (s2.size ≤ 2020 + 200 * j) := ⟨by rw [← hs2, ByteArray.size_append]; have := HQ.out.2; have h13 := pro13 x.f0; omega⟩
      have HQ2 := Aside0.mk hs2
      simp only [hs2]
      clear hs2
      have q0 : 0 ≤ x.f2 := HSM.out.2.2.1
      have q1 : x.f2 < (5 : Int) := by have := HSM.out.2.2.2; omega
      have hps := app_size q0 HSM.out.2.2.2
      obtain ⟨ap, hap⟩ : ∃ y, rdOf ByteArray.empty appList x.f2 = y := ⟨_, rfl⟩
      rw [hap] at hps
      have HAP := Aside0.mk hap
      have HAZ := Aside0.mk hps
      clear hap hps
      have hmm : j ≤ 100 := by have := HF.out.f8; have := HM.out; have := HJJ.out; omega
      have z1 : (9223372036854775807 < t.size + 1) = False := eq_false (by have := HTZ.out; omega)
      have z2 : (9223372036854775807 < t.size + 1 + ap.size) = False := eq_false (by have := HTZ.out; have := HAZ.out; omega)
      have z3 : (9223372036854775807 < s2.size + (t.size + 1 + ap.size)) = False := eq_false (by have := HTZ.out; have := HAZ.out; have := HS2.out; omega)
      clear hmm
      go_upto_region 21 with (fail)
      refine start_ (n := 13) (S := fun w' => w'.cell? ⟨gx, 0, none⟩ = some (.int .i64 x.f0) ∧ w'.cell? ⟨gx, 1, none⟩ = some (.int .i64 x.f1) ∧ w'.cell? ⟨gx, 2, none⟩ = some (.int .i64 x.f2)) (ds := []) #[false, false, false, false, false, false, false, false, false, false, false, false, false] (by kernel_rfl) rfl rfl ⟨zc HX 0, zc HX 1, zc HX 2⟩ (fun hHeld => ?_)
      replace HR := Aside0.mk (HR.out.below (below_drew (Below.refl _ _)))
      replace HX := Aside0.mk (blk_below HX.out (below_drew (Below.refl _ _)))
      generalize World.drew _ = V1 at HX HR hHeld ⊢
      refine zp0 0 88 ?_; refine zp0 1 89 ?_; refine zt0 2 90 hHeld ?_; refine zp0 6 94 ?_; refine zt0 7 95 hHeld ?_; refine zo0 3 91 (fun K hK => ?_)
      refine zg Tryz.func66 #[.int .i64 x.f1] ?_
      with_reducible refine (r06_Number.calls k x.f1 t V1 HNU.out).mono ?_
      rintro e V2 ⟨rfl, hb⟩
      refine ⟨_, rfl, ?_⟩
      replace HR := Aside0.mk (HR.out.below hb)
      replace HX := Aside0.mk (blk_below HX.out hb)
      clear hb
      refine hK.out _ _ ⟨zc HX 0, zc HX 1, zc HX 2⟩ (fun hHeld => ?_)
      clear hK K
      refine zn 91 ?_; refine zp0 4 92 ?_; refine zo0 5 93 (fun K hK => ?_)
      refine zg Tryz.func67 #[] ?_
      with_reducible refine (r18_Apps.calls appList V2 rfl).mono ?_
      rintro e V3 ⟨v, rfl, hlist, hb⟩
      refine ⟨_, rfl, ?_⟩
      replace HR := Aside0.mk (HR.out.below hb)
      replace HX := Aside0.mk (blk_below HX.out hb)
      clear hb
      obtain ⟨Al, cl, hv⟩ := Kd.R_slice hlist
      subst hv
      obtain ⟨adl, hal, hx⟩ := Kd.at_string (Kd.R_reads' hlist).2.2 x.f2 q0 q1
      subst hal
      rw [HAP.out] at hx
      have h5l : appList.length = 5 := rfl
      rw [h5l]
      clear hlist
      replace q0 := eq_true q0
      replace q1 := eq_true q1
      refine hK.out _ _ ⟨zc HX 0, zc HX 1, zc HX 2⟩ (fun hHeld => ?_)
      clear hK K
      refine zn 93 ?_; refine zp0 8 96 ?_
      refine zo0 9 97 (fun K hK => ?_)
      refine value_ (w1 := ?_) (v := ?_) (by rfl) rfl ?_ ?_
      rotate_left 2
      · go_simp
        constructor
        · rfl
        · rfl
      refine hK.out _ _ ⟨zc HX 0, zc HX 1, zc HX 2⟩ (fun hHeld => ?_)
      clear hK K
      refine zn 97 ?_; refine zp0 10 98 ?_; refine zp0 11 99 ?_; refine zp0 12 3 ?_
      refine zd0 ?_
      have HI1 : Aside0 ((m - j) + (j + 1) = m + 1 ∧ j + 1 ≤ m) := ⟨by have := HJJ.out; omega, HJJ.out⟩
      have hj2 : j < m := HJJ.out
      have HQN : Aside0 (rsFold (a.f8.drop (j + 1)) (ts.drop (j + 1)) (s2 ++ ((t ++ ⟨#[32]⟩) ++ ap)) ++ ⟨#[59]⟩ = r ∧ (s2 ++ ((t ++ ⟨#[32]⟩) ++ ap)).size ≤ 2000 + 200 * (j + 1)) := ⟨by have h := HFO.out; rw [rsSvc, HQ2.out, HAP.out] at h; exact h, by rw [ByteArray.size_append, ByteArray.size_append, ByteArray.size_append]; have := HS2.out; have := HTZ.out; have := HAZ.out; have : (⟨#[32]⟩ : ByteArray).size = 1 := rfl; omega⟩
      clear z1 z2 z3 hx q0 q1 hHeld
      go_wp2
      go_roundg (m - j)
      case measure => have := HJ.out.1; have := HM.out; have := HJJ.out; omega
      case rel => exact ⟨j + 1, _, rfl, by (have := HJJ.out; go_num), ⟨by have := HI1.out; have := HM.out; omega⟩, HQN, HR⟩
    · have b1 : decide ((j : Int) < (m : Int)) = false := decide_eq_false (by omega)
      have b2 : decide (j < m) = false := decide_eq_false hj
      have HE : Aside0 (s ++ ⟨#[59]⟩ = r) := ⟨by have h := HQ.out.1; rw [rsFold_end (by rw [HM.out]; omega)] at h; exact h⟩
      have z1 : (9223372036854775807 < s.size + 1) = False := eq_false (by have := HQ.out.2; have := HF.out.f8; have := HJ.out.2; omega)
      go_wp2
      go_ret
      exact ⟨by rw [← HE.out]; rfl, HR.out.bel⟩
theorem r18_Statement.calls (k : Nat) (a0_0 : ByteArray) (a0_1 : Bool) (a0_2 : Int) (a0_3 : Int) (a0_4 : Int) (a0_5 : Int) (a0_6 : Int) (a0_7 : Int) (a0_8 : Int) (a0_9 : Bool) (a0_10 : Int) (A0_11 : Option Addr) (c0_11 : Nat) (l0_11 : List (S74)) (r : ByteArray) (w : World) (hr0_11 : Kd.C k74 w A0_11 l0_11.length l0_11) (hc0_11 : l0_11.length ≤ c0_11) (h : r18_Statement.f k a0_0 a0_1 a0_2 a0_3 a0_4 a0_5 a0_6 a0_7 a0_8 a0_9 a0_10 l0_11 = some r) :
    Calls Tryz.prog 46 #[.agg #[.string a0_0, .bool a0_1, .int .u64 a0_2, .int .u64 a0_3, .int .i64 a0_4, .int .i64 a0_5, .int .i64 a0_6, .int .i64 a0_7, .int .i64 a0_8, .bool a0_9, .int .i64 a0_10, .slice A0_11 l0_11.length c0_11]] w fun e w' => e = .returned (.string r) ∧ Below w.heap.size w w' :=
  r18_Statement.walk k ⟨a0_0, ⟨⟨a0_1, a0_2, a0_3⟩, a0_4⟩, a0_5, a0_6, a0_7, a0_8, a0_9, a0_10, l0_11⟩ A0_11 c0_11 r w hr0_11 h
end Go.Proofs.YtnphnhkinjppjaaGreatDoor.Q
end

section
set_option maxHeartbeats 8000000
set_option maxRecDepth 100000
namespace Go.Proofs.YtnphnhkinjppjaaGreatDoor.Q
open Go.RowKit Go.Proofs.YtnphnhkinjppjaaGreatDoorW.PrintWords Go.Proofs.YtnphnhkinjppjaaGreatDoorW.PrintLast Go.Proofs.YtnphnhkinjppjaaGreatDoorW.PrintMore
attribute [local go_sem] max2_int min2_int max_two min_two max_three min_three max_four min_four
def r18_Format.l0 : Nat → List (S36) → ByteArray → Int → Option (ByteArray)
  | 0, _, _, _ => none
  | k + 1, x0, x3, x4 => if x4 < (x0.length : Int) then (if 0 ≤ x4 then ((r18_Statement.f k ((rd_T36 x0 x4).f0) ((rd_T36 x0 x4).f1.f0.f0) ((rd_T36 x0 x4).f1.f0.f1) ((rd_T36 x0 x4).f1.f0.f2) ((rd_T36 x0 x4).f1.f1) ((rd_T36 x0 x4).f2) ((rd_T36 x0 x4).f3) ((rd_T36 x0 x4).f4) ((rd_T36 x0 x4).f5) ((rd_T36 x0 x4).f6) ((rd_T36 x0 x4).f7) ((rd_T36 x0 x4).f8)).bind fun t386 => (if t386.size + 1 ≤ 9223372036854775807 then (if x3.size + (t386 ++ (⟨#[10]⟩ : ByteArray)).size ≤ 9223372036854775807 then (r18_Format.l0 k x0 (x3 ++ (t386 ++ (⟨#[10]⟩ : ByteArray))) (wrap64 (x4 + 1))) else (none)) else (none))) else (none)) else (some x3)
def r18_Format.f (k : Nat) (l0 : List (S36)) : Option (ByteArray) := (r18_Check.f k l0).bind fun t384 => (if t384 = 0 then (r18_Format.l0 k l0 (⟨#[]⟩ : ByteArray) 0) else (some (⟨#[]⟩ : ByteArray)))
theorem r18_Format.mono_l : ∀ k, (∀ y0 y1 y2, LeO (r18_Format.l0 k y0 y1 y2) (r18_Format.l0 (k + 1) y0 y1 y2))
  | 0 => fun _ _ _ r h => by simp [r18_Format.l0] at h
  | k + 1 => by
    have ih0 := r18_Format.mono_l k
    · intro y0 y1 y2
      unfold r18_Format.l0
      repeat' first
      | (with_reducible exact ih0 _ _ _)
      | (with_reducible exact r18_Check.mono _ _)
      | (with_reducible exact r18_Statement.mono _ _ _ _ _ _ _ _ _ _ _ _ _)
      | (with_reducible exact LeO.refl _)
      | (with_reducible exact LeO.none _)
      | (with_reducible refine LeO.ite ?_ ?_)
      | (with_reducible refine LeO.bind ?_ (fun _ => ?_))
theorem r18_Format.mono : ∀ a0 k, LeO (r18_Format.f k a0) (r18_Format.f (k + 1) a0) := by
  intro a0 k
  have ih0 := r18_Format.mono_l k
  unfold r18_Format.f
  repeat' first
      | (with_reducible exact ih0 _ _ _)
      | (with_reducible exact r18_Check.mono _ _)
      | (with_reducible exact r18_Statement.mono _ _ _ _ _ _ _ _ _ _ _ _ _)
      | (with_reducible exact LeO.refl _)
      | (with_reducible exact LeO.none _)
      | (with_reducible refine LeO.ite ?_ ?_)
      | (with_reducible refine LeO.bind ?_ (fun _ => ?_))
theorem r18_Format.calls (k : Nat) (A0 : Option Addr) (c0 : Nat) (l0 : List (S36)) (r : ByteArray) (w : World) (hr0 : Kd.C k36 w A0 l0.length l0) (hc0 : l0.length ≤ c0) (h : r18_Format.f k l0 = some r) :
 Calls Tryz.prog 15 #[.slice A0 l0.length c0] w fun e w' => e = .returned (.string r) ∧ Below w.heap.size w w' := by
 have hu36 := Tryz.underlying36
 have HR0 := Aside0.mk hr0; have HC0 := Aside0.mk hc0; clear hr0 hc0; have HB := Aside0.mk (Below.refl w.heap.size w)
 unfold r18_Format.f at h; have H := h
 clear h
 replace H := Option.bind_eq_some_iff.mp H
 obtain ⟨t384, A20, H⟩ := H
 try dsimp only at H
 have A2 := Aside0.mk A20; clear A20
 by_cases c3 : t384 = 0
 rotate_left
 · rw [if_neg c3] at H
   have c3b0 : (t384 == 0) = false := beq_eq_false_iff_ne.mpr c3
   have c3b1 : (t384 != 0) = true := bne_iff_ne.mpr c3
   obtain rfl := Option.some.inj H
   go_enter Tryz.func15, Tryz.ntmps15
   go_wp2_with (first | ((with_reducible refine gate_callee (f := 13) rfl ?_); refine zgl 6 Tryz.func13 #[.slice A0 l0.length c0] ?_; (with_reducible refine (r18_Check.calls k _ _ l0 t384 _ ?side1 ?side2 A2.out).mono ?_); (case side1 => repeat (first | exact HR0.out | (with_reducible refine Kd.C_alloc ?_ _) | (with_reducible refine Kd.C_drewN ?_ _) | (with_reducible refine Kd.C_drew ?_))); (case side2 => exact HC0.out); rintro e w11 ⟨rfl, hb⟩; refine ⟨_, rfl, ?_⟩; replace HB := Aside0.mk (below_step (zB HB) hb); (try clear hb)))
   go_ret
   exact ⟨zr, zB HB⟩
 rw [if_pos c3] at H
 have c3b0 : (t384 == 0) = true := beq_iff_eq.mpr c3; have c3b1 : (t384 != 0) = false := bne_eq_false_iff_eq.mpr c3; clear c3
 have H' := Aside0.mk H
 clear H
 go_enter Tryz.func15, Tryz.ntmps15
 go_wp2_with (first | ((with_reducible refine gate_callee (f := 13) rfl ?_); refine zgl 6 Tryz.func13 #[.slice A0 l0.length c0] ?_; (with_reducible refine (r18_Check.calls k _ _ l0 t384 _ ?side1 ?side2 A2.out).mono ?_); (case side1 => repeat (first | exact HR0.out | (with_reducible refine Kd.C_alloc ?_ _) | (with_reducible refine Kd.C_drewN ?_ _) | (with_reducible refine Kd.C_drew ?_))); (case side2 => exact HC0.out); rintro e w4 ⟨rfl, hb⟩; refine ⟨_, rfl, ?_⟩; replace HB := Aside0.mk (below_step (zB HB) hb); (try clear hb)))
 go_loopg [3, 4] k (fun kq v3 v4 w' => ∃ (x3_1 : ByteArray) (x4_1 : Int), v3 = .string x3_1 ∧ v4 = .int .i64 x4_1 ∧ Aside0 (r18_Format.l0 kq l0 x3_1 x4_1 = some r) ∧ Aside0 (kq ≤ k) ∧ Aside0 (Below w.heap.size w w'))
 case atStart => exact ⟨((⟨#[]⟩ : ByteArray)), (0), zI, zI, H', ⟨Nat.le_refl _⟩, ⟨zB HB⟩⟩
 case round =>
  clear H'
  (try clear c3); (try clear c3b0); (try clear c3b1)
  obtain ⟨x3_1, x4_1, rfl, rfl, HA, HK1, HB⟩ := hrel
  rcases gk with _ | k1
  · exact absurd HA.out (by simp [r18_Format.l0])
  have H := HA.out
  clear HA
  simp only [r18_Format.l0] at H
  by_cases c5 : x4_1 < (l0.length : Int)
  rotate_left
  · rw [if_neg c5] at H
    have c5b0 : decide (x4_1 < (l0.length : Int)) = false := decide_eq_false c5; clear c5
    obtain rfl := Option.some.inj H
    go_wp2
    go_ret
    exact ⟨zr, zB HB⟩
  rw [if_pos c5] at H
  have c5b0 : decide (x4_1 < (l0.length : Int)) = true := decide_eq_true c5; clear c5
  by_cases c6 : 0 ≤ x4_1
  rotate_left
  · rw [if_neg c6] at H
    exact absurd H (by simp)
  rw [if_pos c6] at H
  have c6b0 : decide (0 ≤ x4_1) = true := decide_eq_true c6; clear c6
  replace H := Option.bind_eq_some_iff.mp H
  obtain ⟨t386, A70, H⟩ := H
  try dsimp only at H
  have A7 := Aside0.mk A70; clear A70
  by_cases c8 : t386.size + 1 ≤ 9223372036854775807
  rotate_left
  · rw [if_neg c8] at H
    exact absurd H (by simp)
  rw [if_pos c8] at H
  have c8b0 := eq_true c8
  have c8b1 : decide (t386.size + 1 ≤ 9223372036854775807) = true := decide_eq_true c8
  try have c8b2 : (9223372036854775807 < t386.size + 1) = False := eq_false (Nat.not_lt.2 c8)
  by_cases c9 : x3_1.size + (t386 ++ (⟨#[10]⟩ : ByteArray)).size ≤ 9223372036854775807
  rotate_left
  · rw [if_neg c9] at H
    exact absurd H (by simp)
  rw [if_pos c9] at H
  have c9b0 := eq_true c9
  have c9b8 : x3_1.size + t386.size + 1 ≤ 9223372036854775807 := by have q_ := c9; simp only [ByteArray.size_append] at q_; first | exact q_ | (rw [Nat.add_assoc]; exact q_) | (simp only [Nat.add_assoc] at q_ ⊢; exact q_)
  have c9b7 : (9223372036854775807 < x3_1.size + t386.size + 1) = False := eq_false (Nat.not_lt.2 c9b8)
  have c9b6 : x3_1.size + (t386.size + 1) ≤ 9223372036854775807 := by have q_ := c9b8; first | exact q_ | (simp only [Nat.add_assoc] at q_ ⊢; exact q_) | omega
  have c9b5 : (9223372036854775807 < x3_1.size + (t386.size + 1)) = False := eq_false (Nat.not_lt.2 c9b6)
  replace c9b6 := eq_true c9b6
  replace c9b8 := eq_true c9b8
  have c9b1 : decide (x3_1.size + (t386 ++ (⟨#[10]⟩ : ByteArray)).size ≤ 9223372036854775807) = true := decide_eq_true c9
  try have c9b2 : (9223372036854775807 < x3_1.size + (t386 ++ (⟨#[10]⟩ : ByteArray)).size) = False := eq_false (Nat.not_lt.2 c9)
  have H' := Aside0.mk H
  clear H
  have p385 : 0 ≤ (x4_1 : Int) := za
  have q385 : x4_1 < (l0.length : Int) := za
  obtain ⟨ad385, A385_11, c385_11, e385, hx385_0, hx385_1, hx385_2, hx385_3, hx385_4, hx385_5, hx385_6, hx385_7, hx385_8, hx385_9, hx385_10, hx385_11, hl385_11, hi385_11⟩ := at_T36 HR0.out x4_1 p385 q385
  cases e385
  replace hx385_0 := zh HB hx385_0; replace hx385_1 := zh HB hx385_1; replace hx385_2 := zh HB hx385_2; replace hx385_3 := zh HB hx385_3; replace hx385_4 := zh HB hx385_4; replace hx385_5 := zh HB hx385_5; replace hx385_6 := zh HB hx385_6; replace hx385_7 := zh HB hx385_7; replace hx385_8 := zh HB hx385_8; replace hx385_9 := zh HB hx385_9; replace hx385_10 := zh HB hx385_10; replace hx385_11 := zh HB hx385_11; have HR385_11 := Aside0.mk hi385_11; have HC385_11 := Aside0.mk hl385_11; clear hi385_11 hl385_11
  replace p385 := eq_true p385
  replace q385 := eq_true q385
  go_wp2_with (first | ((with_reducible refine gate_callee (f := 46) rfl ?_); refine zgl 19 Tryz.func46 #[.agg #[.string ((rd_T36 l0 x4_1).f0), .bool ((rd_T36 l0 x4_1).f1.f0.f0), .int .u64 ((rd_T36 l0 x4_1).f1.f0.f1), .int .u64 ((rd_T36 l0 x4_1).f1.f0.f2), .int .i64 ((rd_T36 l0 x4_1).f1.f1), .int .i64 ((rd_T36 l0 x4_1).f2), .int .i64 ((rd_T36 l0 x4_1).f3), .int .i64 ((rd_T36 l0 x4_1).f4), .int .i64 ((rd_T36 l0 x4_1).f5), .bool ((rd_T36 l0 x4_1).f6), .int .i64 ((rd_T36 l0 x4_1).f7), .slice A385_11 ((rd_T36 l0 x4_1).f8).length c385_11]] ?_; (with_reducible refine (r18_Statement.calls k1 ((rd_T36 l0 x4_1).f0) ((rd_T36 l0 x4_1).f1.f0.f0) ((rd_T36 l0 x4_1).f1.f0.f1) ((rd_T36 l0 x4_1).f1.f0.f2) ((rd_T36 l0 x4_1).f1.f1) ((rd_T36 l0 x4_1).f2) ((rd_T36 l0 x4_1).f3) ((rd_T36 l0 x4_1).f4) ((rd_T36 l0 x4_1).f5) ((rd_T36 l0 x4_1).f6) ((rd_T36 l0 x4_1).f7) _ _ ((rd_T36 l0 x4_1).f8) t386 _ ?side1 ?side2 A7.out).mono ?_); (case side1 => repeat (first | exact (Kd.C_below HR385_11.out HB.out) | (with_reducible refine Kd.C_alloc ?_ _) | (with_reducible refine Kd.C_drewN ?_ _) | (with_reducible refine Kd.C_drew ?_))); (case side2 => exact HC385_11.out); rintro e w10 ⟨rfl, hb⟩; refine ⟨_, rfl, ?_⟩; replace HB := Aside0.mk (below_step (zB HB) hb); (try clear hb)))
  go_roundg k1
  case measure => have := HK1.out; omega
  case rel => exact ⟨(x3_1 ++ (t386 ++ (⟨#[10]⟩ : ByteArray))), (wrap64 (x4_1 + 1)), zI, zI, H', ⟨by have := HK1.out; omega⟩, ⟨zB HB⟩⟩
end Go.Proofs.YtnphnhkinjppjaaGreatDoor.Q
end

section
namespace Go.Proofs.YtnphnhkinjppjaaGreatDoor.Q
open Go.RowKit Go.Proofs.YtnphnhkinjppjaaGreatDoorW.PrintWords Go.Proofs.YtnphnhkinjppjaaGreatDoorW.PrintLast Go.Proofs.YtnphnhkinjppjaaGreatDoorW.PrintMore
attribute [local go_sem] max2_int min2_int max_two min_two max_three min_three max_four min_four
theorem eqA74 (d : Nat) (w : World) (x0 y0 : Int) (x1 y1 : Int) (x2 y2 : Int) :
    (Op.equalIn (d + 2) 74 (.agg #[.int .i64 x0, .int .i64 x1, .int .i64 x2]) (.agg #[.int .i64 y0, .int .i64 y1, .int .i64 y2])).run Tryz.prog w = .ok (x0 == y0 && (x1 == y1 && (x2 == y2))) w := by
  refine eqA_of Tryz.underlying74 (by kernel_rfl) ?_
  refine eqf_cons (by rfl) (by go_simp; rfl) (by go_simp; rfl) (by go_simp) ?_
  refine eqf_cons (by rfl) (by go_simp; rfl) (by go_simp; rfl) (by go_simp) ?_
  exact eqf_last (by rfl) (by go_simp; rfl) (by go_simp; rfl) (by go_simp)
end Go.Proofs.YtnphnhkinjppjaaGreatDoor.Q
end
