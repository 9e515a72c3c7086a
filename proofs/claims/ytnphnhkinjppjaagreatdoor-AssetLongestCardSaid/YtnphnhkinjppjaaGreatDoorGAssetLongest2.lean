/- The law AssetLongest answers true for every input and leaves its arguments as they were. No condition. (Part 2 of 5: the kit's printed words and walks, hand-made contracts and plain laws, joined in build order, without what the theorem does not reach.) -/
import Derived.Deep.Slices
import Derived.ChangeArms
import Derived.WideShapes
import Derived.DataElems
import Derived.IntWalk
import Derived.Test.YtnphnhkinjppjaaGreatDoorGAssetLongest1
set_option linter.unusedVariables false
set_option linter.unusedSimpArgs false
section
namespace Go.Proofs.YtnphnhkinjppjaaGreatDoor.Q
open Go.RowKit Go.Proofs.YtnphnhkinjppjaaGreatDoorW.PrintWords Go.Proofs.YtnphnhkinjppjaaGreatDoorW.PrintLast Go.Proofs.YtnphnhkinjppjaaGreatDoorW.PrintMore
attribute [local go_sem] max2_int min2_int max_two min_two max_three min_three max_four min_four
mutual
def r06_Groups.l0 : Nat → List Int → Int → Bool → Int → Int → Option (List Int)
  | 0, _, _, _, _, _ => none
  | k + 1, x3, x4, x327000, x327001, x327002 => if x4 ≥ 0 then (if 0 ≤ (IntKind.u64.wrap (wrap64 (16 * x4))) then (if x3.length < 17592186044416 then (r06_Groups.l0 k (x3 ++ [wrap64 (Go.bits .and .u64 (shr .u64 x327001 (IntKind.u64.wrap (wrap64 (16 * x4)))) 65535)]) (wrap64 (x4 - 1)) x327000 x327001 x327002) else (none)) else (none)) else (r06_Groups.l1 k x3 3 x327000 x327001 x327002)
def r06_Groups.l1 : Nat → List Int → Int → Bool → Int → Int → Option (List Int)
  | 0, _, _, _, _, _ => none
  | k + 1, x3, x5, x327000, x327001, x327002 => if x5 ≥ 0 then (if 0 ≤ (IntKind.u64.wrap (wrap64 (16 * x5))) then (if x3.length < 17592186044416 then (r06_Groups.l1 k (x3 ++ [wrap64 (Go.bits .and .u64 (shr .u64 x327002 (IntKind.u64.wrap (wrap64 (16 * x5)))) 65535)]) (wrap64 (x5 - 1)) x327000 x327001 x327002) else (none)) else (none)) else (some x3)
end
def r06_Groups.f (k : Nat) (a0_0 : Bool) (a0_1 : Int) (a0_2 : Int) : Option (List Int) := r06_Groups.l0 k ([] : List Int) 3 a0_0 a0_1 a0_2
theorem r06_Groups.mono_l : ∀ k, (∀ y0 y1 y2 y3 y4, LeO (r06_Groups.l0 k y0 y1 y2 y3 y4) (r06_Groups.l0 (k + 1) y0 y1 y2 y3 y4)) ∧ (∀ y0 y1 y2 y3 y4, LeO (r06_Groups.l1 k y0 y1 y2 y3 y4) (r06_Groups.l1 (k + 1) y0 y1 y2 y3 y4))
  | 0 => ⟨fun _ _ _ _ _ r h => by simp [r06_Groups.l0] at h, fun _ _ _ _ _ r h => by simp [r06_Groups.l1] at h⟩
  | k + 1 => by
    obtain ⟨ih0, ih1⟩ := r06_Groups.mono_l k
    refine ⟨?_, ?_⟩
    · intro y0 y1 y2 y3 y4
      unfold r06_Groups.l0
      repeat' first
      | (with_reducible exact ih0 _ _ _ _ _)
      | (with_reducible exact ih1 _ _ _ _ _)
      | (with_reducible exact LeO.refl _)
      | (with_reducible exact LeO.none _)
      | (with_reducible refine LeO.ite ?_ ?_)
      | (with_reducible refine LeO.bind ?_ (fun _ => ?_))
    · intro y0 y1 y2 y3 y4
      unfold r06_Groups.l1
      repeat' first
      | (with_reducible exact ih0 _ _ _ _ _)
      | (with_reducible exact ih1 _ _ _ _ _)
      | (with_reducible exact LeO.refl _)
      | (with_reducible exact LeO.none _)
      | (with_reducible refine LeO.ite ?_ ?_)
      | (with_reducible refine LeO.bind ?_ (fun _ => ?_))
theorem r06_Groups.mono : ∀ a0 a1 a2 k, LeO (r06_Groups.f k a0 a1 a2) (r06_Groups.f (k + 1) a0 a1 a2) := by
  intro a0 a1 a2 k
  obtain ⟨ih0, ih1⟩ := r06_Groups.mono_l k
  unfold r06_Groups.f
  repeat' first
      | (with_reducible exact ih0 _ _ _ _ _)
      | (with_reducible exact ih1 _ _ _ _ _)
      | (with_reducible exact LeO.refl _)
      | (with_reducible exact LeO.none _)
      | (with_reducible refine LeO.ite ?_ ?_)
      | (with_reducible refine LeO.bind ?_ (fun _ => ?_))
def r06_run.l0 : Nat → List Int → Int → Int → Option (Int)
  | 0, _, _, _ => none
  | k + 1, x0, x1, x5 => if (wrap64 (x1 + x5)) < (x0.length : Int) then (if 0 ≤ (wrap64 (x1 + x5)) then (if (rd x0 (wrap64 (x1 + x5))) = 0 then (r06_run.l0 k x0 x1 (wrap64 (x5 + 1))) else (some x5)) else (none)) else (some x5)
def r06_run.f (k : Nat) (l0 : List Int) (a1 : Int) : Option (Int) := r06_run.l0 k l0 a1 0
theorem r06_run.mono_l : ∀ k, (∀ y0 y1 y2, LeO (r06_run.l0 k y0 y1 y2) (r06_run.l0 (k + 1) y0 y1 y2))
  | 0 => fun _ _ _ r h => by simp [r06_run.l0] at h
  | k + 1 => by
    have ih0 := r06_run.mono_l k
    · intro y0 y1 y2
      unfold r06_run.l0
      repeat' first
      | (with_reducible exact ih0 _ _ _)
      | (with_reducible exact LeO.refl _)
      | (with_reducible exact LeO.none _)
      | (with_reducible refine LeO.ite ?_ ?_)
      | (with_reducible refine LeO.bind ?_ (fun _ => ?_))
theorem r06_run.mono : ∀ a0 a1 k, LeO (r06_run.f k a0 a1) (r06_run.f (k + 1) a0 a1) := by
  intro a0 a1 k
  have ih0 := r06_run.mono_l k
  unfold r06_run.f
  repeat' first
      | (with_reducible exact ih0 _ _ _)
      | (with_reducible exact LeO.refl _)
      | (with_reducible exact LeO.none _)
      | (with_reducible refine LeO.ite ?_ ?_)
      | (with_reducible refine LeO.bind ?_ (fun _ => ?_))
def r06_hex.l0 : Nat → Int → ByteArray → Option (ByteArray)
  | 0, _, _ => none
  | k + 1, x0, x3 => if x0 > 15 then (if 0 ≤ (Int.tmod x0 16) then (if (Int.tmod x0 16) ≤ (wrap64 ((Int.tmod x0 16) + 1)) then (if (wrap64 ((Int.tmod x0 16) + 1)) ≤ 16 then (if ((⟨#[48, 49, 50, 51, 52, 53, 54, 55, 56, 57, 97, 98, 99, 100, 101, 102]⟩ : ByteArray).extract ((Int.tmod x0 16) : Int).toNat ((wrap64 ((Int.tmod x0 16) + 1)) : Int).toNat).size + x3.size ≤ 9223372036854775807 then (r06_hex.l0 k (wrap64 (Int.tdiv x0 16)) (((⟨#[48, 49, 50, 51, 52, 53, 54, 55, 56, 57, 97, 98, 99, 100, 101, 102]⟩ : ByteArray).extract ((Int.tmod x0 16) : Int).toNat ((wrap64 ((Int.tmod x0 16) + 1)) : Int).toNat) ++ x3)) else (none)) else (none)) else (none)) else (none)) else (if 0 ≤ x0 then (if x0 ≤ (wrap64 (x0 + 1)) then (if (wrap64 (x0 + 1)) ≤ 16 then (if ((⟨#[48, 49, 50, 51, 52, 53, 54, 55, 56, 57, 97, 98, 99, 100, 101, 102]⟩ : ByteArray).extract (x0 : Int).toNat ((wrap64 (x0 + 1)) : Int).toNat).size + x3.size ≤ 9223372036854775807 then (some (((⟨#[48, 49, 50, 51, 52, 53, 54, 55, 56, 57, 97, 98, 99, 100, 101, 102]⟩ : ByteArray).extract (x0 : Int).toNat ((wrap64 (x0 + 1)) : Int).toNat) ++ x3)) else (none)) else (none)) else (none)) else (none))
def r06_hex.f (k : Nat) (a0 : Int) : Option (ByteArray) := r06_hex.l0 k a0 (⟨#[]⟩ : ByteArray)
theorem r06_hex.mono_l : ∀ k, (∀ y0 y1, LeO (r06_hex.l0 k y0 y1) (r06_hex.l0 (k + 1) y0 y1))
  | 0 => fun _ _ r h => by simp [r06_hex.l0] at h
  | k + 1 => by
    have ih0 := r06_hex.mono_l k
    · intro y0 y1
      unfold r06_hex.l0
      repeat' first
      | (with_reducible exact ih0 _ _)
      | (with_reducible exact LeO.refl _)
      | (with_reducible exact LeO.none _)
      | (with_reducible refine LeO.ite ?_ ?_)
      | (with_reducible refine LeO.bind ?_ (fun _ => ?_))
theorem r06_hex.mono : ∀ a0 k, LeO (r06_hex.f k a0) (r06_hex.f (k + 1) a0) := by
  intro a0 k
  have ih0 := r06_hex.mono_l k
  unfold r06_hex.f
  repeat' first
      | (with_reducible exact ih0 _ _)
      | (with_reducible exact LeO.refl _)
      | (with_reducible exact LeO.none _)
      | (with_reducible refine LeO.ite ?_ ?_)
      | (with_reducible refine LeO.bind ?_ (fun _ => ?_))
end Go.Proofs.YtnphnhkinjppjaaGreatDoor.Q
end

section
namespace Go.Proofs.YtnphnhkinjppjaaGreatDoor.Q
open Go.RowKit Go.Proofs.YtnphnhkinjppjaaGreatDoorW.PrintWords Go.Proofs.YtnphnhkinjppjaaGreatDoorW.PrintLast Go.Proofs.YtnphnhkinjppjaaGreatDoorW.PrintMore
attribute [local go_sem] max2_int min2_int max_two min_two max_three min_three max_four min_four
mutual
def r06_Format.l0 : Nat → List Int → Int → Int → Int → Option (ByteArray)
  | 0, _, _, _, _ => none
  | k + 1, x3, x4, x5, x6 => if x6 < 8 then ((r06_run.f k x3 x6).bind fun t342 => (if t342 > x5 then ((r06_run.f k x3 x6).bind fun t343 => (r06_Format.l0 k x3 x6 t343 (wrap64 (x6 + 1)))) else (r06_Format.l0 k x3 x4 x5 (wrap64 (x6 + 1))))) else (r06_Format.l1 k x3 x4 x5 (⟨#[]⟩ : ByteArray) 0)
def r06_Format.l1 : Nat → List Int → Int → Int → ByteArray → Int → Option (ByteArray)
  | 0, _, _, _, _, _ => none
  | k + 1, x3, x4, x5, x7, x8 => if x8 < 8 then (if x8 = x4 then (if x7.size + 2 ≤ 9223372036854775807 then (r06_Format.l1 k x3 x4 x5 (x7 ++ (⟨#[58, 58]⟩ : ByteArray)) (wrap64 ((wrap64 (x8 + (wrap64 (x5 - 1)))) + 1))) else (none)) else (if x7.toList = ([] : List UInt8) then (if 0 ≤ x8 then (if x8 < (x3.length : Int) then ((r06_hex.f k (rd x3 x8)).bind fun t345 => (if x7.size + t345.size ≤ 9223372036854775807 then (r06_Format.l1 k x3 x4 x5 (x7 ++ t345) (wrap64 (x8 + 1))) else (none))) else (none)) else (none)) else (if 0 ≤ (wrap64 ((x7.size : Int) - 1)) then (if (wrap64 ((x7.size : Int) - 1)) < (x7.size : Int) then (if (bt x7 (wrap64 ((x7.size : Int) - 1))) = 58 then (if 0 ≤ x8 then (if x8 < (x3.length : Int) then ((r06_hex.f k (rd x3 x8)).bind fun t347 => (if x7.size + t347.size ≤ 9223372036854775807 then (r06_Format.l1 k x3 x4 x5 (x7 ++ t347) (wrap64 (x8 + 1))) else (none))) else (none)) else (none)) else (if x7.size + 1 ≤ 9223372036854775807 then (if 0 ≤ x8 then (if x8 < (x3.length : Int) then ((r06_hex.f k (rd x3 x8)).bind fun t349 => (if (x7 ++ (⟨#[58]⟩ : ByteArray)).size + t349.size ≤ 9223372036854775807 then (r06_Format.l1 k x3 x4 x5 ((x7 ++ (⟨#[58]⟩ : ByteArray)) ++ t349) (wrap64 (x8 + 1))) else (none))) else (none)) else (none)) else (none))) else (none)) else (none)))) else (some x7)
end
def r06_Format.f (k : Nat) (a0_0 : Bool) (a0_1 : Int) (a0_2 : Int) : Option (ByteArray) := if a0_0 = true then ((r06_Groups.f k a0_0 a0_1 a0_2).bind fun t339 => (r06_Format.l0 k t339 (-1) 1 0)) else ((r06_Number.f k (wrap64 (Go.bits .and .u64 (a0_2 / 16777216) 255))).bind fun t335 => (if t335.size + 1 ≤ 9223372036854775807 then ((r06_Number.f k (wrap64 (Go.bits .and .u64 (a0_2 / 65536) 255))).bind fun t336 => (if (t335 ++ (⟨#[46]⟩ : ByteArray)).size + t336.size ≤ 9223372036854775807 then (if ((t335 ++ (⟨#[46]⟩ : ByteArray)) ++ t336).size + 1 ≤ 9223372036854775807 then ((r06_Number.f k (wrap64 (Go.bits .and .u64 (a0_2 / 256) 255))).bind fun t337 => (if (((t335 ++ (⟨#[46]⟩ : ByteArray)) ++ t336) ++ (⟨#[46]⟩ : ByteArray)).size + t337.size ≤ 9223372036854775807 then (if ((((t335 ++ (⟨#[46]⟩ : ByteArray)) ++ t336) ++ (⟨#[46]⟩ : ByteArray)) ++ t337).size + 1 ≤ 9223372036854775807 then ((r06_Number.f k (wrap64 (Go.bits .and .u64 a0_2 255))).bind fun t338 => (if (((((t335 ++ (⟨#[46]⟩ : ByteArray)) ++ t336) ++ (⟨#[46]⟩ : ByteArray)) ++ t337) ++ (⟨#[46]⟩ : ByteArray)).size + t338.size ≤ 9223372036854775807 then (some ((((((t335 ++ (⟨#[46]⟩ : ByteArray)) ++ t336) ++ (⟨#[46]⟩ : ByteArray)) ++ t337) ++ (⟨#[46]⟩ : ByteArray)) ++ t338)) else (none))) else (none)) else (none))) else (none)) else (none))) else (none)))
theorem r06_Format.mono_l : ∀ k, (∀ y0 y1 y2 y3, LeO (r06_Format.l0 k y0 y1 y2 y3) (r06_Format.l0 (k + 1) y0 y1 y2 y3)) ∧ (∀ y0 y1 y2 y3 y4, LeO (r06_Format.l1 k y0 y1 y2 y3 y4) (r06_Format.l1 (k + 1) y0 y1 y2 y3 y4))
  | 0 => ⟨fun _ _ _ _ r h => by simp [r06_Format.l0] at h, fun _ _ _ _ _ r h => by simp [r06_Format.l1] at h⟩
  | k + 1 => by
    obtain ⟨ih0, ih1⟩ := r06_Format.mono_l k
    refine ⟨?_, ?_⟩
    · intro y0 y1 y2 y3
      unfold r06_Format.l0
      repeat' first
      | (with_reducible exact ih0 _ _ _ _)
      | (with_reducible exact ih1 _ _ _ _ _)
      | (with_reducible exact r06_Groups.mono _ _ _ _)
      | (with_reducible exact r06_Number.mono _ _)
      | (with_reducible exact r06_hex.mono _ _)
      | (with_reducible exact r06_run.mono _ _ _)
      | (with_reducible exact LeO.refl _)
      | (with_reducible exact LeO.none _)
      | (with_reducible refine LeO.ite ?_ ?_)
      | (with_reducible refine LeO.bind ?_ (fun _ => ?_))
    · intro y0 y1 y2 y3 y4
      unfold r06_Format.l1
      repeat' first
      | (with_reducible exact ih0 _ _ _ _)
      | (with_reducible exact ih1 _ _ _ _ _)
      | (with_reducible exact r06_Groups.mono _ _ _ _)
      | (with_reducible exact r06_Number.mono _ _)
      | (with_reducible exact r06_hex.mono _ _)
      | (with_reducible exact r06_run.mono _ _ _)
      | (with_reducible exact LeO.refl _)
      | (with_reducible exact LeO.none _)
      | (with_reducible refine LeO.ite ?_ ?_)
      | (with_reducible refine LeO.bind ?_ (fun _ => ?_))
theorem r06_Format.mono : ∀ a0 a1 a2 k, LeO (r06_Format.f k a0 a1 a2) (r06_Format.f (k + 1) a0 a1 a2) := by
  intro a0 a1 a2 k
  obtain ⟨ih0, ih1⟩ := r06_Format.mono_l k
  unfold r06_Format.f
  repeat' first
      | (with_reducible exact ih0 _ _ _ _)
      | (with_reducible exact ih1 _ _ _ _ _)
      | (with_reducible exact r06_Groups.mono _ _ _ _)
      | (with_reducible exact r06_Number.mono _ _)
      | (with_reducible exact r06_hex.mono _ _)
      | (with_reducible exact r06_run.mono _ _ _)
      | (with_reducible exact LeO.refl _)
      | (with_reducible exact LeO.none _)
      | (with_reducible refine LeO.ite ?_ ?_)
      | (with_reducible refine LeO.bind ?_ (fun _ => ?_))
end Go.Proofs.YtnphnhkinjppjaaGreatDoor.Q
end

section
namespace Go.Proofs.YtnphnhkinjppjaaGreatDoor.Read
open Go.RowKit Go.Deep Go.WideShapes Go.Proofs.YtnphnhkinjppjaaGreatDoorW.PrintWords
def Reads {α : Type} (P : Program) (W : World) (d : Kd α) (Q : α → Prop) (t : TypeId) : Prop :=
  ∀ (H : Type) (enc : TypeId × Value → H) (fuel : Nat) (cs : List Value) (x : DataW H × List MemPlace), DataW.trod enc P W 0 (fun _ => true) true fuel t cs = some x → ∃ y, d.K W y cs ∧ Q y
section
variable {P : Program} {W : World}
theorem reads_int {k : IntKind} {t : TypeId} (ht : P.underlying t = some (.int k)) : Reads P W (Kd.int k) (fun n => (Lit.int k n).wf = true) t := by
  intro H enc fuel cs x h
  obtain ⟨n, rfl, _, hw⟩ := DataW.trod_int ht h
  exact ⟨n, rfl, hw⟩
theorem reads_bool {t : TypeId} (ht : P.underlying t = some .bool) : Reads P W Kd.bool (fun _ => True) t := by
  intro H enc fuel cs x h
  obtain ⟨n, rfl, _⟩ := DataW.trod_bool ht h
  exact ⟨n, rfl, trivial⟩
theorem reads_string {t : TypeId} (ht : P.underlying t = some .string) : Reads P W Kd.string (fun s => s.size ≤ maxLen) t := by
  intro H enc fuel cs x h
  obtain ⟨n, rfl, _, hs⟩ := DataW.trod_string ht h
  exact ⟨n, rfl, hs⟩
theorem cells_at {a : Addr} {n : Nat} {cs : List Value} (h : W.cells? 0 a n = some cs) : ∀ i u, cs[i]? = some u → W.cell? (a.add i) = some u := by
  obtain ⟨_, hl, hc⟩ := World.cells?_some h
  intro i u hi
  have hlt : i < cs.length := (List.getElem?_eq_some_iff.1 hi).1
  rw [hc i (by omega), hi]
theorem reads_slice {α : Type} {d : Kd α} {Q : α → Prop} {t e : TypeId} (ht : P.underlying t = some (.slice e)) (hc : P.cellsOf e = d.sz) (he : Reads P W d Q e) :
    Reads P W (Kd.slice e d) (fun xs => xs.length ≤ maxLen ∧ ∀ x ∈ xs, Q x) t := by
  intro H enc fuel cs x h
  rcases open_slice ht h with ⟨rfl, _⟩ | ⟨a, len, cap, m, n, D, Pl, rfl, _, hl, hm, hmm, _, hx⟩
  · exact ⟨[], ⟨none, 0, rfl, Nat.le_refl _, ⟨rfl, by simp, fun h => absurd h (by simp)⟩⟩, by simp⟩
  · have hml : m = cap := by simpa using hmm
    have hy : ∀ i : Fin len, ∃ y, (∃ cs', cs'.length = d.sz ∧ d.K W y cs' ∧ ∀ j u, cs'[j]? = some u → W.cell? (a.add (i.1 * d.sz + j)) = some u) ∧ Q y := by
      intro i
      obtain ⟨cs', h1, h2⟩ := hx i.1 (by omega)
      obtain ⟨y, hk, hq⟩ := he H enc n cs' _ h2
      refine ⟨y, ⟨cs', d.K_len hk, hk, fun j u hj => ?_⟩, hq⟩
      have := cells_at h1 j u hj
      rwa [hc, Addr.add_add] at this
    have hf : ∃ f : Fin len → α, ∀ i, (∃ cs', cs'.length = d.sz ∧ d.K W (f i) cs' ∧ ∀ j u, cs'[j]? = some u → W.cell? (a.add (i.1 * d.sz + j)) = some u) ∧ Q (f i) := ⟨fun i => Classical.choose (hy i), fun i => Classical.choose_spec (hy i)⟩
    obtain ⟨f, hf⟩ := hf
    refine ⟨List.ofFn f, ⟨some a, cap, by simp, by simpa using hl, ⟨rfl, by simp [maxLen] at hm ⊢; omega, fun _ => ⟨a, rfl, fun j p hj => ?_⟩⟩⟩, by simpa using Nat.le_trans hl hm, fun y hy => ?_⟩
    · obtain ⟨hlt, rfl⟩ := List.getElem?_eq_some_iff.1 hj
      have hjl : j < len := by simpa using hlt
      rw [List.getElem_ofFn]
      exact (hf ⟨j, hjl⟩).1
    · obtain ⟨j, hj, rfl⟩ := List.getElem_of_mem hy
      rw [List.getElem_ofFn]
      exact (hf _).2
theorem pair_mk {α β : Type} {a : Kd α} {b : Kd β} {x : α} {y : β} {cs : List Value} (s : Nat) (h0 : a.K W x (cs.take s)) (h1 : b.K W y (cs.drop s)) : (Kd.pair a b).K W (x, y) cs :=
  ⟨cs.take s, cs.drop s, (List.take_append_drop s cs).symm, h0, h1⟩
theorem field_at {α : Type} {d : Kd α} {Q : α → Prop} {fs : Array Field} {H : Type} {enc : TypeId × Value → H} {n : Nat} {cs : List Value} {xs : List (DataW H × List MemPlace)} (hl : xs.length = fs.size)
    (hf : ∀ (i : Nat) (f : Field), fs[i]? = some f → DataW.trod enc P W 0 (fun _ => true) true n f.type ((cs.drop f.offset).take (P.cellsOf f.type)) = xs[i]?)
    (i : Nat) {f : Field} (hi : fs[i]? = some f) {t off sz : Nat} (ht : f.type = t) (ho : f.offset = off) (hc : P.cellsOf t = sz) (hr : Reads P W d Q t) : ∃ y, d.K W y ((cs.drop off).take sz) ∧ Q y := by
  subst ht ho hc
  have h := hf i f hi
  have hlt : i < xs.length := by rw [hl]; exact (Array.getElem?_eq_some_iff.1 hi).1
  rw [List.getElem?_eq_getElem hlt] at h
  exact hr H enc n _ _ h
end
end Go.Proofs.YtnphnhkinjppjaaGreatDoor.Read
end

section
namespace Go.Proofs.YtnphnhkinjppjaaGreatDoor.Q
open Go.RowKit Go.Proofs.YtnphnhkinjppjaaGreatDoorW.PrintWords Go.Proofs.YtnphnhkinjppjaaGreatDoor.Read
def q31 (x : S31) : Prop := True ∧ (Lit.int .u64 x.f1).wf = true ∧ (Lit.int .u64 x.f2).wf = true
theorem reads_k31 (W : World) : Reads Tryz.prog W k31 q31 31 := by
  intro H enc fuel cs x h
  obtain ⟨xs, n, rfl, _, hcl, hxl, hf⟩ := DataW.trod_struct Tryz.underlying31 h
  have hc : cs.length = 3 := hcl.trans (by kernel_rfl)
  obtain ⟨y0, h0, g0⟩ := field_at hxl hf 0 rfl (t := 4) (off := 0) (sz := 1) rfl rfl (by kernel_rfl) (reads_bool Tryz.underlying4)
  obtain ⟨y1, h1, g1⟩ := field_at hxl hf 1 rfl (t := 29) (off := 1) (sz := 1) rfl rfl (by kernel_rfl) (reads_int Tryz.underlying29)
  obtain ⟨y2, h2, g2⟩ := field_at hxl hf 2 rfl (t := 29) (off := 2) (sz := 1) rfl rfl (by kernel_rfl) (reads_int Tryz.underlying29)
  refine ⟨⟨y0, y1, y2⟩, ?_, ⟨g0, g1, g2⟩⟩
  rw [show (cs.drop 0).take 1 = (cs.drop 0).take 1 from rfl] at h0
  rw [show (cs.drop 1).take 1 = (cs.drop 1).take 1 from rfl] at h1
  rw [show (cs.drop 2).take 1 = (cs.drop 2) from List.take_of_length_le (by rw [List.length_drop, hc]; decide)] at h2
  skip
  simp only [show 2 = 1 + 1 from rfl, ← List.drop_drop] at h2
  have e0 : cs.drop 0 = cs := rfl
  rw [e0] at h0
  exact pair_mk (a := Kd.bool) 1 h0 (pair_mk (a := (Kd.int .u64)) 1 h1 (h2))
def q33 (x : S33) : Prop := q31 x.f0 ∧ (Lit.int .i64 x.f1).wf = true
theorem reads_k33 (W : World) : Reads Tryz.prog W k33 q33 33 := by
  intro H enc fuel cs x h
  obtain ⟨xs, n, rfl, _, hcl, hxl, hf⟩ := DataW.trod_struct Tryz.underlying33 h
  have hc : cs.length = 4 := hcl.trans (by kernel_rfl)
  obtain ⟨y0, h0, g0⟩ := field_at hxl hf 0 rfl (t := 31) (off := 0) (sz := 3) rfl rfl (by kernel_rfl) (reads_k31 W)
  obtain ⟨y1, h1, g1⟩ := field_at hxl hf 1 rfl (t := 3) (off := 3) (sz := 1) rfl rfl (by kernel_rfl) (reads_int Tryz.underlying3)
  refine ⟨⟨y0, y1⟩, ?_, ⟨g0, g1⟩⟩
  rw [show (cs.drop 0).take 3 = (cs.drop 0).take 3 from rfl] at h0
  rw [show (cs.drop 3).take 1 = (cs.drop 3) from List.take_of_length_le (by rw [List.length_drop, hc]; decide)] at h1
  skip
  have e0 : cs.drop 0 = cs := rfl
  rw [e0] at h0
  exact pair_mk (a := k31) 3 h0 (h1)
def q74 (x : S74) : Prop := (Lit.int .i64 x.f0).wf = true ∧ (Lit.int .i64 x.f1).wf = true ∧ (Lit.int .i64 x.f2).wf = true
theorem reads_k74 (W : World) : Reads Tryz.prog W k74 q74 74 := by
  intro H enc fuel cs x h
  obtain ⟨xs, n, rfl, _, hcl, hxl, hf⟩ := DataW.trod_struct Tryz.underlying74 h
  have hc : cs.length = 3 := hcl.trans (by kernel_rfl)
  obtain ⟨y0, h0, g0⟩ := field_at hxl hf 0 rfl (t := 3) (off := 0) (sz := 1) rfl rfl (by kernel_rfl) (reads_int Tryz.underlying3)
  obtain ⟨y1, h1, g1⟩ := field_at hxl hf 1 rfl (t := 3) (off := 1) (sz := 1) rfl rfl (by kernel_rfl) (reads_int Tryz.underlying3)
  obtain ⟨y2, h2, g2⟩ := field_at hxl hf 2 rfl (t := 3) (off := 2) (sz := 1) rfl rfl (by kernel_rfl) (reads_int Tryz.underlying3)
  refine ⟨⟨y0, y1, y2⟩, ?_, ⟨g0, g1, g2⟩⟩
  rw [show (cs.drop 0).take 1 = (cs.drop 0).take 1 from rfl] at h0
  rw [show (cs.drop 1).take 1 = (cs.drop 1).take 1 from rfl] at h1
  rw [show (cs.drop 2).take 1 = (cs.drop 2) from List.take_of_length_le (by rw [List.length_drop, hc]; decide)] at h2
  skip
  simp only [show 2 = 1 + 1 from rfl, ← List.drop_drop] at h2
  have e0 : cs.drop 0 = cs := rfl
  rw [e0] at h0
  exact pair_mk (a := (Kd.int .i64)) 1 h0 (pair_mk (a := (Kd.int .i64)) 1 h1 (h2))
def q36 (x : S36) : Prop := x.f0.size ≤ maxLen ∧ q33 x.f1 ∧ (Lit.int .i64 x.f2).wf = true ∧ (Lit.int .i64 x.f3).wf = true ∧ (Lit.int .i64 x.f4).wf = true ∧ (Lit.int .i64 x.f5).wf = true ∧ True ∧ (Lit.int .i64 x.f7).wf = true ∧ (x.f8.length ≤ maxLen ∧ ∀ y ∈ x.f8, q74 y)
theorem reads_k36 (W : World) : Reads Tryz.prog W k36 q36 36 := by
  intro H enc fuel cs x h
  obtain ⟨xs, n, rfl, _, hcl, hxl, hf⟩ := DataW.trod_struct Tryz.underlying36 h
  have hc : cs.length = 12 := hcl.trans (by kernel_rfl)
  obtain ⟨y0, h0, g0⟩ := field_at hxl hf 0 rfl (t := 9) (off := 0) (sz := 1) rfl rfl (by kernel_rfl) (reads_string Tryz.underlying9)
  obtain ⟨y1, h1, g1⟩ := field_at hxl hf 1 rfl (t := 33) (off := 1) (sz := 4) rfl rfl (by kernel_rfl) (reads_k33 W)
  obtain ⟨y2, h2, g2⟩ := field_at hxl hf 2 rfl (t := 3) (off := 5) (sz := 1) rfl rfl (by kernel_rfl) (reads_int Tryz.underlying3)
  obtain ⟨y3, h3, g3⟩ := field_at hxl hf 3 rfl (t := 3) (off := 6) (sz := 1) rfl rfl (by kernel_rfl) (reads_int Tryz.underlying3)
  obtain ⟨y4, h4, g4⟩ := field_at hxl hf 4 rfl (t := 3) (off := 7) (sz := 1) rfl rfl (by kernel_rfl) (reads_int Tryz.underlying3)
  obtain ⟨y5, h5, g5⟩ := field_at hxl hf 5 rfl (t := 3) (off := 8) (sz := 1) rfl rfl (by kernel_rfl) (reads_int Tryz.underlying3)
  obtain ⟨y6, h6, g6⟩ := field_at hxl hf 6 rfl (t := 4) (off := 9) (sz := 1) rfl rfl (by kernel_rfl) (reads_bool Tryz.underlying4)
  obtain ⟨y7, h7, g7⟩ := field_at hxl hf 7 rfl (t := 3) (off := 10) (sz := 1) rfl rfl (by kernel_rfl) (reads_int Tryz.underlying3)
  obtain ⟨y8, h8, g8⟩ := field_at hxl hf 8 rfl (t := 34) (off := 11) (sz := 1) rfl rfl (by kernel_rfl) (reads_slice Tryz.underlying34 (by kernel_rfl) (reads_k74 W))
  refine ⟨⟨y0, y1, y2, y3, y4, y5, y6, y7, y8⟩, ?_, ⟨g0, g1, g2, g3, g4, g5, g6, g7, g8⟩⟩
  rw [show (cs.drop 0).take 1 = (cs.drop 0).take 1 from rfl] at h0
  rw [show (cs.drop 1).take 4 = (cs.drop 1).take 4 from rfl] at h1
  rw [show (cs.drop 5).take 1 = (cs.drop 5).take 1 from rfl] at h2
  rw [show (cs.drop 6).take 1 = (cs.drop 6).take 1 from rfl] at h3
  rw [show (cs.drop 7).take 1 = (cs.drop 7).take 1 from rfl] at h4
  rw [show (cs.drop 8).take 1 = (cs.drop 8).take 1 from rfl] at h5
  rw [show (cs.drop 9).take 1 = (cs.drop 9).take 1 from rfl] at h6
  rw [show (cs.drop 10).take 1 = (cs.drop 10).take 1 from rfl] at h7
  rw [show (cs.drop 11).take 1 = (cs.drop 11) from List.take_of_length_le (by rw [List.length_drop, hc]; decide)] at h8
  skip
  simp only [show 5 = 1 + 4 from rfl, ← List.drop_drop] at h2
  simp only [show 6 = 1 + 4 + 1 from rfl, ← List.drop_drop] at h3
  simp only [show 7 = 1 + 4 + 1 + 1 from rfl, ← List.drop_drop] at h4
  simp only [show 8 = 1 + 4 + 1 + 1 + 1 from rfl, ← List.drop_drop] at h5
  simp only [show 9 = 1 + 4 + 1 + 1 + 1 + 1 from rfl, ← List.drop_drop] at h6
  simp only [show 10 = 1 + 4 + 1 + 1 + 1 + 1 + 1 from rfl, ← List.drop_drop] at h7
  simp only [show 11 = 1 + 4 + 1 + 1 + 1 + 1 + 1 + 1 from rfl, ← List.drop_drop] at h8
  have e0 : cs.drop 0 = cs := rfl
  rw [e0] at h0
  exact pair_mk (a := Kd.string) 1 h0 (pair_mk (a := k33) 4 h1 (pair_mk (a := (Kd.int .i64)) 1 h2 (pair_mk (a := (Kd.int .i64)) 1 h3 (pair_mk (a := (Kd.int .i64)) 1 h4 (pair_mk (a := (Kd.int .i64)) 1 h5 (pair_mk (a := Kd.bool) 1 h6 (pair_mk (a := (Kd.int .i64)) 1 h7 (h8))))))))
end Go.Proofs.YtnphnhkinjppjaaGreatDoor.Q
end

section
set_option maxHeartbeats 8000000
set_option maxRecDepth 100000
namespace Go.Proofs.YtnphnhkinjppjaaGreatDoor.Q
open Go.RowKit Go.Proofs.YtnphnhkinjppjaaGreatDoorW.PrintWords Go.Proofs.YtnphnhkinjppjaaGreatDoorW.PrintLast Go.Proofs.YtnphnhkinjppjaaGreatDoorW.PrintMore
attribute [local go_sem] max2_int min2_int max_two min_two max_three min_three max_four min_four
def address_Valid.f (a0_0 : Bool) (a0_1 : Int) (a0_2 : Int) : Option (Bool) := if a0_0 = true then (some true) else (if a0_1 = 0 then (some (decide (a0_2 ≤ 4294967295))) else (some false))
theorem address_Valid.calls (a0_0 : Bool) (a0_1 : Int) (a0_2 : Int) (r : Bool) (w : World) (h : address_Valid.f a0_0 a0_1 a0_2 = some r) :
 Calls Tryz.prog 91 #[.agg #[.bool a0_0, .int .u64 a0_1, .int .u64 a0_2]] w fun e w' => e = .returned (.bool r) ∧ Below w.heap.size w w' := by
 have hu31 := Tryz.underlying31
 have HB := Aside0.mk (Below.refl w.heap.size w)
 unfold address_Valid.f at h; have H := h
 clear h
 by_cases c2 : a0_0 = true
 · subst c2
   rw [if_pos rfl] at H
   obtain rfl := Option.some.inj H
   go_enter Tryz.func91, Tryz.ntmps91
   go_wp2_with (first | ((with_reducible refine gate_dst (N := 1) rfl ?_); refine zx 1 #[.bool true, .int .u64 a0_1, .int .u64 a0_2] 31 ?_; intro gb113 hg w3 hbox hb; have BK113 := Aside0.mk (hbox); have GW113 := zG HB hg; have GE113 := zG HB hg; replace HB := Aside0.mk (below_step (zB HB) hb); clear hb hbox hg; obtain ⟨hcz4_0, hcz4_1, hcz4_2⟩ := zc3 BK113; obtain ⟨hfz4_0, hfz4_1, hfz4_2⟩ := zf3 BK113))
   go_ret
   exact ⟨zr, zB HB⟩
 replace c2 := Bool.eq_false_iff.mpr c2
 subst c2; rw [if_neg zF] at H
 by_cases c5 : a0_1 = 0
 · rw [if_pos c5] at H
   have c5b0 : (a0_1 == 0) = true := beq_iff_eq.mpr c5; have c5b1 : (a0_1 != 0) = false := bne_eq_false_iff_eq.mpr c5; clear c5
   obtain rfl := Option.some.inj H
   go_enter Tryz.func91, Tryz.ntmps91
   go_wp2_with (first | ((with_reducible refine gate_dst (N := 1) rfl ?_); refine zx 1 #[.bool false, .int .u64 a0_1, .int .u64 a0_2] 31 ?_; intro gb113 hg w6 hbox hb; have BK113 := Aside0.mk (hbox); have GW113 := zG HB hg; have GE113 := zG HB hg; replace HB := Aside0.mk (below_step (zB HB) hb); clear hb hbox hg; obtain ⟨hcz7_0, hcz7_1, hcz7_2⟩ := zc3 BK113; obtain ⟨hfz7_0, hfz7_1, hfz7_2⟩ := zf3 BK113))
   go_ret
   exact ⟨zr, zB HB⟩
 rw [if_neg c5] at H
 have c5b0 : (a0_1 == 0) = false := beq_eq_false_iff_ne.mpr c5
 have c5b1 : (a0_1 != 0) = true := bne_iff_ne.mpr c5
 obtain rfl := Option.some.inj H
 go_enter Tryz.func91, Tryz.ntmps91
 go_wp2_with (first | ((with_reducible refine gate_dst (N := 1) rfl ?_); refine zx 1 #[.bool false, .int .u64 a0_1, .int .u64 a0_2] 31 ?_; intro gb113 hg w8 hbox hb; have BK113 := Aside0.mk (hbox); have GW113 := zG HB hg; have GE113 := zG HB hg; replace HB := Aside0.mk (below_step (zB HB) hb); clear hb hbox hg; obtain ⟨hcz9_0, hcz9_1, hcz9_2⟩ := zc3 BK113; obtain ⟨hfz9_0, hfz9_1, hfz9_2⟩ := zf3 BK113))
 go_ret
 exact ⟨zr, zB HB⟩
def r06_Valid.f (a0_0 : Bool) (a0_1 : Int) (a0_2 : Int) : Option (Bool) := if a0_0 = true then (some true) else (if a0_1 = 0 then (some (decide (a0_2 < 4294967296))) else (some false))
theorem r06_Valid.calls (a0_0 : Bool) (a0_1 : Int) (a0_2 : Int) (r : Bool) (w : World) (h : r06_Valid.f a0_0 a0_1 a0_2 = some r) :
 Calls Tryz.prog 24 #[.agg #[.bool a0_0, .int .u64 a0_1, .int .u64 a0_2]] w fun e w' => e = .returned (.bool r) ∧ Below w.heap.size w w' := by
 have hu31 := Tryz.underlying31
 have HB := Aside0.mk (Below.refl w.heap.size w)
 unfold r06_Valid.f at h; have H := h
 clear h
 by_cases c2 : a0_0 = true
 · subst c2
   rw [if_pos rfl] at H
   obtain rfl := Option.some.inj H
   go_enter Tryz.func24, Tryz.ntmps24
   go_wp2_with (first | ((with_reducible refine gate_dst (N := 1) rfl ?_); refine zx 1 #[.bool true, .int .u64 a0_1, .int .u64 a0_2] 31 ?_; intro gb294 hg w3 hbox hb; have BK294 := Aside0.mk (hbox); have GW294 := zG HB hg; have GE294 := zG HB hg; replace HB := Aside0.mk (below_step (zB HB) hb); clear hb hbox hg; obtain ⟨hcz4_0, hcz4_1, hcz4_2⟩ := zc3 BK294; obtain ⟨hfz4_0, hfz4_1, hfz4_2⟩ := zf3 BK294))
   go_ret
   exact ⟨zr, zB HB⟩
 replace c2 := Bool.eq_false_iff.mpr c2
 subst c2; rw [if_neg zF] at H
 by_cases c5 : a0_1 = 0
 · rw [if_pos c5] at H
   have c5b0 : (a0_1 == 0) = true := beq_iff_eq.mpr c5; have c5b1 : (a0_1 != 0) = false := bne_eq_false_iff_eq.mpr c5; clear c5
   obtain rfl := Option.some.inj H
   go_enter Tryz.func24, Tryz.ntmps24
   go_wp2_with (first | ((with_reducible refine gate_dst (N := 1) rfl ?_); refine zx 1 #[.bool false, .int .u64 a0_1, .int .u64 a0_2] 31 ?_; intro gb294 hg w6 hbox hb; have BK294 := Aside0.mk (hbox); have GW294 := zG HB hg; have GE294 := zG HB hg; replace HB := Aside0.mk (below_step (zB HB) hb); clear hb hbox hg; obtain ⟨hcz7_0, hcz7_1, hcz7_2⟩ := zc3 BK294; obtain ⟨hfz7_0, hfz7_1, hfz7_2⟩ := zf3 BK294))
   go_ret
   exact ⟨zr, zB HB⟩
 rw [if_neg c5] at H
 have c5b0 : (a0_1 == 0) = false := beq_eq_false_iff_ne.mpr c5
 have c5b1 : (a0_1 != 0) = true := bne_iff_ne.mpr c5
 obtain rfl := Option.some.inj H
 go_enter Tryz.func24, Tryz.ntmps24
 go_wp2_with (first | ((with_reducible refine gate_dst (N := 1) rfl ?_); refine zx 1 #[.bool false, .int .u64 a0_1, .int .u64 a0_2] 31 ?_; intro gb294 hg w8 hbox hb; have BK294 := Aside0.mk (hbox); have GW294 := zG HB hg; have GE294 := zG HB hg; replace HB := Aside0.mk (below_step (zB HB) hb); clear hb hbox hg; obtain ⟨hcz9_0, hcz9_1, hcz9_2⟩ := zc3 BK294; obtain ⟨hfz9_0, hfz9_1, hfz9_2⟩ := zf3 BK294))
 go_ret
 exact ⟨zr, zB HB⟩
def address_size.f (a0_0 : Bool) (a0_1 : Int) (a0_2 : Int) : Option (Int) := if a0_0 = true then (some 128) else (some 32)
theorem address_size.calls (a0_0 : Bool) (a0_1 : Int) (a0_2 : Int) (r : Int) (w : World) (h : address_size.f a0_0 a0_1 a0_2 = some r) :
 Calls Tryz.prog 92 #[.agg #[.bool a0_0, .int .u64 a0_1, .int .u64 a0_2]] w fun e w' => e = .returned (.int .i64 r) ∧ Below w.heap.size w w' := by
 have hu31 := Tryz.underlying31
 have HB := Aside0.mk (Below.refl w.heap.size w)
 unfold address_size.f at h; have H := h
 clear h
 by_cases c2 : a0_0 = true
 · subst c2
   rw [if_pos rfl] at H
   obtain rfl := Option.some.inj H
   go_enter Tryz.func92, Tryz.ntmps92
   go_wp2_with (first | ((with_reducible refine gate_dst (N := 1) rfl ?_); refine zx 1 #[.bool true, .int .u64 a0_1, .int .u64 a0_2] 31 ?_; intro gb108 hg w3 hbox hb; have BK108 := Aside0.mk (hbox); have GW108 := zG HB hg; have GE108 := zG HB hg; replace HB := Aside0.mk (below_step (zB HB) hb); clear hb hbox hg; obtain ⟨hcz4_0, hcz4_1, hcz4_2⟩ := zc3 BK108; obtain ⟨hfz4_0, hfz4_1, hfz4_2⟩ := zf3 BK108))
   go_ret
   exact ⟨zr, zB HB⟩
 replace c2 := Bool.eq_false_iff.mpr c2
 subst c2; rw [if_neg zF] at H
 obtain rfl := Option.some.inj H
 go_enter Tryz.func92, Tryz.ntmps92
 go_wp2_with (first | ((with_reducible refine gate_dst (N := 1) rfl ?_); refine zx 1 #[.bool false, .int .u64 a0_1, .int .u64 a0_2] 31 ?_; intro gb108 hg w5 hbox hb; have BK108 := Aside0.mk (hbox); have GW108 := zG HB hg; have GE108 := zG HB hg; replace HB := Aside0.mk (below_step (zB HB) hb); clear hb hbox hg; obtain ⟨hcz6_0, hcz6_1, hcz6_2⟩ := zc3 BK108; obtain ⟨hfz6_0, hfz6_1, hfz6_2⟩ := zf3 BK108))
 go_ret
 exact ⟨zr, zB HB⟩
def address_low.f (a0 : Int) : Option (Int) := if a0 ≥ 64 then (some 18446744073709551615) else (if a0 ≤ 0 then (some 0) else (if 0 ≤ a0 then (some (IntKind.u64.wrap ((shl .u64 1 a0) - 1))) else (none)))
theorem address_low.calls (a0 : Int) (r : Int) (w : World) (h : address_low.f a0 = some r) :
 Calls Tryz.prog 117 #[.int .i64 a0] w fun e w' => e = .returned (.int .u64 r) ∧ Drawn0 w w' := by
 unfold address_low.f at h; have H := h
 clear h
 by_cases c2 : a0 ≥ 64
 · rw [if_pos c2] at H
   have c2b0 : decide (64 ≤ a0) = true := decide_eq_true c2; clear c2
   obtain rfl := Option.some.inj H
   go_enter Tryz.func117, Tryz.ntmps117
   go_wp2
   go_ret
   exact ⟨by first | rfl | (simp; done) | (simp [*]; done), by repeat (first | exact Drawn0.refl _ | apply Drawn0.step)⟩
 rw [if_neg c2] at H
 have c2b0 : decide (64 ≤ a0) = false := decide_eq_false c2; clear c2
 by_cases c3 : a0 ≤ 0
 · rw [if_pos c3] at H
   have c3b0 : decide (a0 ≤ 0) = true := decide_eq_true c3; clear c3
   obtain rfl := Option.some.inj H
   go_enter Tryz.func117, Tryz.ntmps117
   go_wp2
   go_ret
   exact ⟨by first | rfl | (simp; done) | (simp [*]; done), by repeat (first | exact Drawn0.refl _ | apply Drawn0.step)⟩
 rw [if_neg c3] at H
 have c3b0 : decide (a0 ≤ 0) = false := decide_eq_false c3; clear c3
 by_cases c4 : 0 ≤ a0
 rotate_left
 · rw [if_neg c4] at H
   exact absurd H (by simp)
 rw [if_pos c4] at H
 have c4b0 := eq_true c4
 have c4b1 : decide (0 ≤ a0) = true := decide_eq_true c4; clear c4
 obtain ⟨ji5, hji5⟩ : ∃ j_ : Int, (shl .u64 1 a0) = j_ := ⟨_, rfl⟩
 replace H : (some (IntKind.u64.wrap ((ji5) - 1))) = some r := by first | (rw [hji5] at H; exact H) | (simp only [hji5] at H ⊢; exact H)
 have hji5_ : (IntKind.u64.wrap (1 * 2 ^ min a0.toNat 64)) = ji5 := hji5
 have hji5z : a0 ≤ 64 → (IntKind.u64.wrap (1 * 2 ^ a0.toNat)) = ji5 := shl_small hji5
 have hji5u : (IntKind.u64.wrap (2 ^ min a0.toNat 64)) = ji5 := by have h_ := hji5_; rw [Int.one_mul] at h_; exact h_
 have hji5v : a0 ≤ 64 → (IntKind.u64.wrap (2 ^ a0.toNat)) = ji5 := fun hle_ => by have h_ := hji5z hle_; rw [Int.one_mul] at h_; exact h_
 obtain rfl := Option.some.inj H
 go_enter Tryz.func117, Tryz.ntmps117
 go_wp2
 go_ret
 exact ⟨by first | rfl | (simp; done) | (simp only [← hji5] <;> (first | rfl | simp)) | (simp [*]; done), by repeat (first | exact Drawn0.refl _ | apply Drawn0.step)⟩
def address_mask.f (a0_0 : Bool) (a0_1 : Int) (a0_2 : Int) (a1 : Int) : Option (Int × Int) := (address_size.f a0_0 a0_1 a0_2).bind fun t110 => ((address_low.f (wrap64 ((wrap64 (t110 - a1)) - 64))).bind fun t111 => ((address_low.f (wrap64 (t110 - a1))).bind fun t112 => (some (t111, t112))))
theorem address_mask.calls (a0_0 : Bool) (a0_1 : Int) (a0_2 : Int) (a1 : Int) (r1 : Int) (r2 : Int) (w : World) (h : address_mask.f a0_0 a0_1 a0_2 a1 = some (r1, r2)) :
 Calls Tryz.prog 86 #[.agg #[.bool a0_0, .int .u64 a0_1, .int .u64 a0_2], .int .i64 a1] w fun e w' => e = .returned (.tuple #[.int .u64 r1, .int .u64 r2]) ∧ Below w.heap.size w w' := by
 have hu31 := Tryz.underlying31
 have HB := Aside0.mk (Below.refl w.heap.size w)
 unfold address_mask.f at h; have H := h
 clear h
 replace H := Option.bind_eq_some_iff.mp H
 obtain ⟨t110, A30, H⟩ := H
 replace H : ((address_low.f (wrap64 ((wrap64 (t110 - a1)) - 64))).bind fun t111 => ((address_low.f (wrap64 (t110 - a1))).bind fun t112 => (some (t111, t112)))) = some (r1, r2) := H
 have A3 := Aside0.mk A30; clear A30
 replace H := Option.bind_eq_some_iff.mp H
 obtain ⟨t111, A40, H⟩ := H
 replace H : ((address_low.f (wrap64 (t110 - a1))).bind fun t112 => (some (t111, t112))) = some (r1, r2) := H
 have A4 := Aside0.mk A40; clear A40
 replace H := Option.bind_eq_some_iff.mp H
 obtain ⟨t112, A50, H⟩ := H
 replace H : (some (t111, t112)) = some (r1, r2) := H
 have A5 := Aside0.mk A50; clear A50
 simp only [Option.some.injEq, Prod.mk.injEq] at H
 obtain ⟨rfl, rfl⟩ := H
 go_enter Tryz.func86, Tryz.ntmps86
 go_wp2_with (first | ((with_reducible refine gate_dst (N := 2) rfl ?_); refine zx 2 #[.bool a0_0, .int .u64 a0_1, .int .u64 a0_2] 31 ?_; intro gb109 hg w6 hbox hb; have BK109 := Aside0.mk (hbox); have GW109 := zG HB hg; have GE109 := zG HB hg; replace HB := Aside0.mk (below_step (zB HB) hb); clear hb hbox hg; obtain ⟨hcz7_0, hcz7_1, hcz7_2⟩ := zc3 BK109; obtain ⟨hfz7_0, hfz7_1, hfz7_2⟩ := zf3 BK109) | ((with_reducible refine gate_callee (f := 92) rfl ?_); refine zgl 8 Tryz.func92 #[.agg #[.bool a0_0, .int .u64 a0_1, .int .u64 a0_2]] ?_; (with_reducible refine (address_size.calls a0_0 a0_1 a0_2 t110 _ A3.out).mono ?_); rintro e w8 ⟨rfl, hb⟩; refine ⟨_, rfl, ?_⟩; replace BK109 := zkb BK109 hb; replace HB := Aside0.mk (below_step (zB HB) hb); (try clear hb)) | ((with_reducible refine gate_callee (f := 117) rfl ?_); refine zgl 13 Tryz.func117 #[.int .i64 (wrap64 ((wrap64 (t110 - a1)) - 64))] ?_; (with_reducible refine (address_low.calls (wrap64 ((wrap64 (t110 - a1)) - 64)) t111 _ A4.out).mono ?_); rintro e w' ⟨rfl, ⟨nd, rfl⟩⟩; refine ⟨_, rfl, ?_⟩) | ((with_reducible refine gate_callee (f := 117) rfl ?_); refine zgl 15 Tryz.func117 #[.int .i64 (wrap64 (t110 - a1))] ?_; (with_reducible refine (address_low.calls (wrap64 (t110 - a1)) t112 _ A5.out).mono ?_); rintro e w' ⟨rfl, ⟨nd, rfl⟩⟩; refine ⟨_, rfl, ?_⟩))
 go_ret2
 exact ⟨zr, zB HB⟩
def address_Contains.f (a0_0 : Bool) (a0_1 : Int) (a0_2 : Int) (a0_3 : Int) (a1_0 : Bool) (a1_1 : Int) (a1_2 : Int) : Option (Bool) := if (a0_0 != a1_0) = true then (some false) else ((address_mask.f a1_0 a1_1 a1_2 a0_3).bind fun bt265 => (if (Go.bits .andNot .u64 a1_1 bt265.1) = (Go.bits .andNot .u64 a0_1 bt265.1) then (some ((Go.bits .andNot .u64 a1_2 bt265.2) == (Go.bits .andNot .u64 a0_2 bt265.2))) else (some false)))
theorem address_Contains.calls (a0_0 : Bool) (a0_1 : Int) (a0_2 : Int) (a0_3 : Int) (a1_0 : Bool) (a1_1 : Int) (a1_2 : Int) (r : Bool) (w : World) (h : address_Contains.f a0_0 a0_1 a0_2 a0_3 a1_0 a1_1 a1_2 = some r) :
 Calls Tryz.prog 53 #[.agg #[.bool a0_0, .int .u64 a0_1, .int .u64 a0_2, .int .i64 a0_3], .agg #[.bool a1_0, .int .u64 a1_1, .int .u64 a1_2]] w fun e w' => e = .returned (.bool r) ∧ Below w.heap.size w w' := by
 have hu33 := Tryz.underlying33
 have hu31 := Tryz.underlying31
 have HB := Aside0.mk (Below.refl w.heap.size w)
 unfold address_Contains.f at h; have H := h
 clear h
 by_cases c3 : (a0_0 != a1_0) = true
 · rw [if_pos c3] at H
   have c3b0 : (a0_0 != a1_0) = true := c3
   (try (have c3b1 : decide (a0_0 = a1_0) = false := by first | (simpa using c3) | exact decide_eq_true (Decidable.not_not.1 (fun hn => c3 (bne_iff_ne.2 hn))) | exact beq_iff_eq.2 (Decidable.not_not.1 (fun hn => c3 (bne_iff_ne.2 hn))) | exact decide_eq_false (bne_iff_ne.1 c3) | exact beq_eq_false_iff_ne.2 (bne_iff_ne.1 c3) | exact bne_iff_ne.1 c3))
   (try (have c3b2 : (a0_0 == a1_0) = false := by first | (simpa using c3) | exact decide_eq_true (Decidable.not_not.1 (fun hn => c3 (bne_iff_ne.2 hn))) | exact beq_iff_eq.2 (Decidable.not_not.1 (fun hn => c3 (bne_iff_ne.2 hn))) | exact decide_eq_false (bne_iff_ne.1 c3) | exact beq_eq_false_iff_ne.2 (bne_iff_ne.1 c3) | exact bne_iff_ne.1 c3))
   (try (have c3b3 : ¬ (a0_0 = a1_0) := by first | (simpa using c3) | exact decide_eq_true (Decidable.not_not.1 (fun hn => c3 (bne_iff_ne.2 hn))) | exact beq_iff_eq.2 (Decidable.not_not.1 (fun hn => c3 (bne_iff_ne.2 hn))) | exact decide_eq_false (bne_iff_ne.1 c3) | exact beq_eq_false_iff_ne.2 (bne_iff_ne.1 c3) | exact bne_iff_ne.1 c3))
   clear c3
   obtain rfl := Option.some.inj H
   go_enter Tryz.func53, Tryz.ntmps53
   go_wp2_with (first | ((with_reducible refine gate_dst (N := 2) rfl ?_); refine zx 2 #[.bool a0_0, .int .u64 a0_1, .int .u64 a0_2, .int .i64 a0_3] 33 ?_; intro gb263 hg w4 hbox hb; have BK263 := Aside0.mk (hbox); have GW263 := zG HB hg; have GE263 := zG HB hg; replace HB := Aside0.mk (below_step (zB HB) hb); clear hb hbox hg) | ((with_reducible refine gate_dst (N := 3) rfl ?_); refine zx 3 #[.bool a1_0, .int .u64 a1_1, .int .u64 a1_2] 31 ?_; intro gb264 hg w5 hbox hb; have BK264 := Aside0.mk (hbox); have GW264 := zG HB hg; have GE264 := zG HB hg; replace HB := Aside0.mk (below_step (zB HB) hb); have NB263_264 := Aside0.mk ((by rw [hg]; exact Nat.ne_of_lt (blk_lt (g := gb263) (o := .cells #[.bool a0_0, .int .u64 a0_1, .int .u64 a0_2, .int .i64 a0_3] 33 (0, 0)) (zK BK263)) : gb263 ≠ gb264)); have NB264_263 := Aside0.mk ((by rw [hg]; exact Nat.ne_of_gt (blk_lt (g := gb263) (o := .cells #[.bool a0_0, .int .u64 a0_1, .int .u64 a0_2, .int .i64 a0_3] 33 (0, 0)) (zK BK263)) : gb264 ≠ gb263)); replace BK263 := zkb BK263 hb; clear hb hbox hg; have hnb6 := NB263_264.out; have hnc6 := NB264_263.out; obtain ⟨hcz7_0, hcz7_1, hcz7_2, hcz7_3⟩ := zc4 BK263; obtain ⟨hfz7_0, hfz7_1, hfz7_2, hfz7_3⟩ := zf4 BK263; obtain ⟨hcz8_0, hcz8_1, hcz8_2⟩ := zc3 BK264; obtain ⟨hfz8_0, hfz8_1, hfz8_2⟩ := zf3 BK264))
   go_ret
   exact ⟨zr, zB HB⟩
 rw [if_neg c3] at H
 have c3b0 : (a0_0 != a1_0) = false := by simpa using c3
 (try (have c3b1 : decide (a0_0 = a1_0) = true := by first | (simpa using c3) | exact decide_eq_true (Decidable.not_not.1 (fun hn => c3 (bne_iff_ne.2 hn))) | exact beq_iff_eq.2 (Decidable.not_not.1 (fun hn => c3 (bne_iff_ne.2 hn))) | exact decide_eq_false (bne_iff_ne.1 c3) | exact beq_eq_false_iff_ne.2 (bne_iff_ne.1 c3) | exact bne_iff_ne.1 c3))
 (try (have c3b2 : (a0_0 == a1_0) = true := by first | (simpa using c3) | exact decide_eq_true (Decidable.not_not.1 (fun hn => c3 (bne_iff_ne.2 hn))) | exact beq_iff_eq.2 (Decidable.not_not.1 (fun hn => c3 (bne_iff_ne.2 hn))) | exact decide_eq_false (bne_iff_ne.1 c3) | exact beq_eq_false_iff_ne.2 (bne_iff_ne.1 c3) | exact bne_iff_ne.1 c3))
 clear c3
 replace H := Option.bind_eq_some_iff.mp H
 obtain ⟨⟨t265, t266⟩, A90, H⟩ := H
 try dsimp only at H
 have A9 := Aside0.mk A90; clear A90
 by_cases c10 : (Go.bits .andNot .u64 a1_1 t265) = (Go.bits .andNot .u64 a0_1 t265)
 · rw [if_pos c10] at H
   have c10b0 : ((Go.bits .andNot .u64 a1_1 t265) == (Go.bits .andNot .u64 a0_1 t265)) = true := beq_iff_eq.mpr c10; have c10b1 : ((Go.bits .andNot .u64 a1_1 t265) != (Go.bits .andNot .u64 a0_1 t265)) = false := bne_eq_false_iff_eq.mpr c10; clear c10
   obtain rfl := Option.some.inj H
   go_enter Tryz.func53, Tryz.ntmps53
   go_wp2_with (first | ((with_reducible refine gate_dst (N := 2) rfl ?_); refine zx 2 #[.bool a0_0, .int .u64 a0_1, .int .u64 a0_2, .int .i64 a0_3] 33 ?_; intro gb263 hg w11 hbox hb; have BK263 := Aside0.mk (hbox); have GW263 := zG HB hg; have GE263 := zG HB hg; replace HB := Aside0.mk (below_step (zB HB) hb); clear hb hbox hg) | ((with_reducible refine gate_dst (N := 3) rfl ?_); refine zx 3 #[.bool a1_0, .int .u64 a1_1, .int .u64 a1_2] 31 ?_; intro gb264 hg w12 hbox hb; have BK264 := Aside0.mk (hbox); have GW264 := zG HB hg; have GE264 := zG HB hg; replace HB := Aside0.mk (below_step (zB HB) hb); have NB263_264 := Aside0.mk ((by rw [hg]; exact Nat.ne_of_lt (blk_lt (g := gb263) (o := .cells #[.bool a0_0, .int .u64 a0_1, .int .u64 a0_2, .int .i64 a0_3] 33 (0, 0)) (zK BK263)) : gb263 ≠ gb264)); have NB264_263 := Aside0.mk ((by rw [hg]; exact Nat.ne_of_gt (blk_lt (g := gb263) (o := .cells #[.bool a0_0, .int .u64 a0_1, .int .u64 a0_2, .int .i64 a0_3] 33 (0, 0)) (zK BK263)) : gb264 ≠ gb263)); replace BK263 := zkb BK263 hb; clear hb hbox hg; have hnb13 := NB263_264.out; have hnc13 := NB264_263.out; obtain ⟨hcz14_0, hcz14_1, hcz14_2, hcz14_3⟩ := zc4 BK263; obtain ⟨hfz14_0, hfz14_1, hfz14_2, hfz14_3⟩ := zf4 BK263; obtain ⟨hcz15_0, hcz15_1, hcz15_2⟩ := zc3 BK264; obtain ⟨hfz15_0, hfz15_1, hfz15_2⟩ := zf3 BK264) | ((with_reducible refine gate_callee (f := 86) rfl ?_); refine zgl 17 Tryz.func86 #[.agg #[.bool a1_0, .int .u64 a1_1, .int .u64 a1_2], .int .i64 a0_3] ?_; (with_reducible refine (address_mask.calls a1_0 a1_1 a1_2 a0_3 t265 t266 _ A9.out).mono ?_); rintro e w16 ⟨rfl, hb⟩; refine ⟨_, rfl, ?_⟩; replace BK263 := zkb BK263 hb; replace BK264 := zkb BK264 hb; replace HB := Aside0.mk (below_step (zB HB) hb); (try clear hb); obtain ⟨hcz17_0, hcz17_1, hcz17_2⟩ := zc3 BK264; obtain ⟨hfz17_0, hfz17_1, hfz17_2⟩ := zf3 BK264; obtain ⟨hcz18_0, hcz18_1, hcz18_2, hcz18_3⟩ := zc4 BK263; obtain ⟨hfz18_0, hfz18_1, hfz18_2, hfz18_3⟩ := zf4 BK263))
   go_ret
   exact ⟨zr, zB HB⟩
 rw [if_neg c10] at H
 have c10b0 : ((Go.bits .andNot .u64 a1_1 t265) == (Go.bits .andNot .u64 a0_1 t265)) = false := beq_eq_false_iff_ne.mpr c10
 have c10b1 : ((Go.bits .andNot .u64 a1_1 t265) != (Go.bits .andNot .u64 a0_1 t265)) = true := bne_iff_ne.mpr c10
 obtain rfl := Option.some.inj H
 go_enter Tryz.func53, Tryz.ntmps53
 go_wp2_with (first | ((with_reducible refine gate_dst (N := 2) rfl ?_); refine zx 2 #[.bool a0_0, .int .u64 a0_1, .int .u64 a0_2, .int .i64 a0_3] 33 ?_; intro gb263 hg w19 hbox hb; have BK263 := Aside0.mk (hbox); have GW263 := zG HB hg; have GE263 := zG HB hg; replace HB := Aside0.mk (below_step (zB HB) hb); clear hb hbox hg) | ((with_reducible refine gate_dst (N := 3) rfl ?_); refine zx 3 #[.bool a1_0, .int .u64 a1_1, .int .u64 a1_2] 31 ?_; intro gb264 hg w20 hbox hb; have BK264 := Aside0.mk (hbox); have GW264 := zG HB hg; have GE264 := zG HB hg; replace HB := Aside0.mk (below_step (zB HB) hb); have NB263_264 := Aside0.mk ((by rw [hg]; exact Nat.ne_of_lt (blk_lt (g := gb263) (o := .cells #[.bool a0_0, .int .u64 a0_1, .int .u64 a0_2, .int .i64 a0_3] 33 (0, 0)) (zK BK263)) : gb263 ≠ gb264)); have NB264_263 := Aside0.mk ((by rw [hg]; exact Nat.ne_of_gt (blk_lt (g := gb263) (o := .cells #[.bool a0_0, .int .u64 a0_1, .int .u64 a0_2, .int .i64 a0_3] 33 (0, 0)) (zK BK263)) : gb264 ≠ gb263)); replace BK263 := zkb BK263 hb; clear hb hbox hg; have hnb21 := NB263_264.out; have hnc21 := NB264_263.out; obtain ⟨hcz22_0, hcz22_1, hcz22_2, hcz22_3⟩ := zc4 BK263; obtain ⟨hfz22_0, hfz22_1, hfz22_2, hfz22_3⟩ := zf4 BK263; obtain ⟨hcz23_0, hcz23_1, hcz23_2⟩ := zc3 BK264; obtain ⟨hfz23_0, hfz23_1, hfz23_2⟩ := zf3 BK264) | ((with_reducible refine gate_callee (f := 86) rfl ?_); refine zgl 17 Tryz.func86 #[.agg #[.bool a1_0, .int .u64 a1_1, .int .u64 a1_2], .int .i64 a0_3] ?_; (with_reducible refine (address_mask.calls a1_0 a1_1 a1_2 a0_3 t265 t266 _ A9.out).mono ?_); rintro e w24 ⟨rfl, hb⟩; refine ⟨_, rfl, ?_⟩; replace BK263 := zkb BK263 hb; replace BK264 := zkb BK264 hb; replace HB := Aside0.mk (below_step (zB HB) hb); (try clear hb); obtain ⟨hcz25_0, hcz25_1, hcz25_2⟩ := zc3 BK264; obtain ⟨hfz25_0, hfz25_1, hfz25_2⟩ := zf3 BK264; obtain ⟨hcz26_0, hcz26_1, hcz26_2, hcz26_3⟩ := zc4 BK263; obtain ⟨hfz26_0, hfz26_1, hfz26_2, hfz26_3⟩ := zf4 BK263))
 go_ret
 exact ⟨zr, zB HB⟩
def address_ValidPrefix.f (a0_0 : Bool) (a0_1 : Int) (a0_2 : Int) (a0_3 : Int) : Option (Bool) := (address_Valid.f a0_0 a0_1 a0_2).bind fun t115 => (if t115 = true then (if a0_3 < 0 then (some false) else ((address_size.f a0_0 a0_1 a0_2).bind fun t116 => (if a0_3 > t116 then (some false) else ((address_mask.f a0_0 a0_1 a0_2 a0_3).bind fun bt117 => (if (Go.bits .and .u64 a0_1 bt117.1) = 0 then (some ((Go.bits .and .u64 a0_2 bt117.2) == 0)) else (some false)))))) else (some false))
def address_ValidPrefix.T1 : Bool × List (List Nat × List Nat) := (true, [([], []), ([0], [0]), ([1], [1]), ([2], [2]), ([3, 2], [3]), ([4], [4]), ([5, 4], [4, 5]), ([6, 4], [4, 6]), ([4, 7], [4, 7]), ([8, 4], [8]), ([9], [9]), ([10, 9], [9, 10]), ([9], [9]), ([12, 9], [9, 12]), ([13, 9, 9], [9, 13]), ([11, 14, 9], [9, 11, 14]), ([9, 15], [9, 15])])
def address_ValidPrefix.B1 : List Nat := [0, 1, 3, 7, 15, 31, 63, 127, 255, 511, 1023, 2047, 1023, 5119, 13311, 32767, 65535]
theorem address_ValidPrefix.tab1 : rtab .any (opsOf Tryz.f56 1) = address_ValidPrefix.T1 := by kernel_rfl
theorem address_ValidPrefix.bits1 : waitsOk address_ValidPrefix.T1.2 address_ValidPrefix.B1 = true := by kernel_rfl
theorem address_ValidPrefix.calls (a0_0 : Bool) (a0_1 : Int) (a0_2 : Int) (a0_3 : Int) (r : Bool) (w : World) (h : address_ValidPrefix.f a0_0 a0_1 a0_2 a0_3 = some r) :
 Calls Tryz.prog 56 #[.agg #[.bool a0_0, .int .u64 a0_1, .int .u64 a0_2, .int .i64 a0_3]] w fun e w' => e = .returned (.bool r) ∧ Below w.heap.size w w' := by
 have hu33 := Tryz.underlying33
 have hu31 := Tryz.underlying31
 have HB := Aside0.mk (Below.refl w.heap.size w)
 unfold address_ValidPrefix.f at h; have H := h
 clear h
 replace H := Option.bind_eq_some_iff.mp H
 obtain ⟨t115, A20, H⟩ := H
 try dsimp only at H
 have A2 := Aside0.mk A20; clear A20
 by_cases c3 : t115 = true
 rotate_left
 · replace c3 := Bool.eq_false_iff.mpr c3
   subst c3; rw [if_neg zF] at H
   obtain rfl := Option.some.inj H
   go_enter Tryz.func56, Tryz.ntmps56
   try go_wp2_with (first | ((with_reducible refine gate_dst (N := 1) rfl ?_); refine zx 1 #[.bool a0_0, .int .u64 a0_1, .int .u64 a0_2, .int .i64 a0_3] 33 ?_; intro gb114 hg w30 hbox hb; have BK114 := Aside0.mk (hbox); have GW114 := zG HB hg; have GE114 := zG HB hg; replace HB := Aside0.mk (below_step (zB HB) hb); clear hb hbox hg))
   replace BK114 := Aside0.mk (blk_drew BK114.out); replace HB := Aside0.mk (below_drew1 HB.out)
   refine start_ (n := 17) (S := fun w' => w'.cell? ⟨gb114, 0, none⟩ = some (.bool a0_0) ∧ w'.cell? ⟨gb114, 1, none⟩ = some (.int .u64 a0_1) ∧ w'.cell? ⟨gb114, 2, none⟩ = some (.int .u64 a0_2) ∧ w'.cell? ⟨gb114, 3, none⟩ = some (.int .i64 a0_3)) (ds := []) #[false, false, false, false, false, false, false, false, false, false, false, false, false, false, false, false, false] (by kernel_rfl) rfl rfl ⟨zc BK114 0, zc BK114 1, zc BK114 2, zc BK114 3⟩ (fun hHeld => ?_); refine with_tabW address_ValidPrefix.tab1 address_ValidPrefix.bits1 (fun HT_ HW_ => ?_)
   generalize w30.drew = w31 at BK114 HB hHeld ⊢
   refine zp 0 5 HT_ ?_; refine zt 1 6 HT_ HW_ hHeld ?_; refine zo 2 7 HT_ (fun K hK => ?_)
   refine zg Tryz.func91 #[.agg #[.bool a0_0, .int .u64 a0_1, .int .u64 a0_2]] ?_
   with_reducible refine (address_Valid.calls a0_0 a0_1 a0_2 false _ A2.out).mono ?_
   rintro e w32 ⟨rfl, hb⟩
   refine ⟨_, rfl, ?_⟩
   replace BK114 := zkb BK114 hb; replace HB := Aside0.mk (below_step (zB HB) hb)
   try clear hb
   refine hK.out _ _ ⟨zc BK114 0, zc BK114 1, zc BK114 2, zc BK114 3⟩ (fun hHeld => ?_)
   clear hK K
   refine zn 7 ?_; refine zp 3 8 HT_ ?_; refine zp 4 9 HT_ ?_; refine zu 5 10 HT_ ?_; refine zu 6 11 HT_ ?_; refine zu 7 12 HT_ ?_; refine zp 8 13 HT_ ?_; refine zp 9 14 HT_ ?_; refine zu 10 15 HT_ ?_; refine zu 11 16 HT_ ?_; refine zu 12 17 HT_ ?_; refine zu 13 18 HT_ ?_; refine zu 14 19 HT_ ?_; refine zu 15 20 HT_ ?_; refine zp 16 21 HT_ ?_; refine zd HT_ ?_
   try go_wp2
   go_ret
   exact ⟨zr, zB HB⟩
 subst c3; rw [if_pos rfl] at H
 by_cases c4 : a0_3 < 0
 · rw [if_pos c4] at H
   have c4b0 : decide (a0_3 < 0) = true := decide_eq_true c4; clear c4
   obtain rfl := Option.some.inj H
   go_enter Tryz.func56, Tryz.ntmps56
   try go_wp2_with (first | ((with_reducible refine gate_dst (N := 1) rfl ?_); refine zx 1 #[.bool a0_0, .int .u64 a0_1, .int .u64 a0_2, .int .i64 a0_3] 33 ?_; intro gb114 hg w5 hbox hb; have BK114 := Aside0.mk (hbox); have GW114 := zG HB hg; have GE114 := zG HB hg; replace HB := Aside0.mk (below_step (zB HB) hb); clear hb hbox hg))
   replace BK114 := Aside0.mk (blk_drew BK114.out); replace HB := Aside0.mk (below_drew1 HB.out)
   refine start_ (n := 17) (S := fun w' => w'.cell? ⟨gb114, 0, none⟩ = some (.bool a0_0) ∧ w'.cell? ⟨gb114, 1, none⟩ = some (.int .u64 a0_1) ∧ w'.cell? ⟨gb114, 2, none⟩ = some (.int .u64 a0_2) ∧ w'.cell? ⟨gb114, 3, none⟩ = some (.int .i64 a0_3)) (ds := []) #[false, false, false, false, false, false, false, false, false, false, false, false, false, false, false, false, false] (by kernel_rfl) rfl rfl ⟨zc BK114 0, zc BK114 1, zc BK114 2, zc BK114 3⟩ (fun hHeld => ?_); refine with_tabW address_ValidPrefix.tab1 address_ValidPrefix.bits1 (fun HT_ HW_ => ?_)
   generalize w5.drew = w6 at BK114 HB hHeld ⊢
   refine zp 0 5 HT_ ?_; refine zt 1 6 HT_ HW_ hHeld ?_; refine zo 2 7 HT_ (fun K hK => ?_)
   refine zg Tryz.func91 #[.agg #[.bool a0_0, .int .u64 a0_1, .int .u64 a0_2]] ?_
   with_reducible refine (address_Valid.calls a0_0 a0_1 a0_2 true _ A2.out).mono ?_
   rintro e w7 ⟨rfl, hb⟩
   refine ⟨_, rfl, ?_⟩
   replace BK114 := zkb BK114 hb; replace HB := Aside0.mk (below_step (zB HB) hb)
   try clear hb
   refine hK.out _ _ ⟨zc BK114 0, zc BK114 1, zc BK114 2, zc BK114 3⟩ (fun hHeld => ?_)
   clear hK K
   refine zn 7 ?_; refine zp 3 8 HT_ ?_; refine zp 4 9 HT_ ?_; refine zp 5 10 HT_ ?_; refine zt 6 11 HT_ HW_ hHeld ?_; refine zp 7 12 HT_ ?_; refine zp 8 13 HT_ ?_; refine zp 9 14 HT_ ?_; refine zu 10 15 HT_ ?_; refine zu 11 16 HT_ ?_; refine zu 12 17 HT_ ?_; refine zu 13 18 HT_ ?_; refine zu 14 19 HT_ ?_; refine zu 15 20 HT_ ?_; refine zp 16 21 HT_ ?_; refine zd HT_ ?_
   try go_wp2
   go_ret
   exact ⟨zr, zB HB⟩
 rw [if_neg c4] at H
 have c4b0 : decide (a0_3 < 0) = false := decide_eq_false c4; clear c4
 replace H := Option.bind_eq_some_iff.mp H
 obtain ⟨t116, A80, H⟩ := H
 try dsimp only at H
 have A8 := Aside0.mk A80; clear A80
 by_cases c9 : a0_3 > t116
 · rw [if_pos c9] at H
   have c9b0 : decide (t116 < a0_3) = true := decide_eq_true c9; clear c9
   obtain rfl := Option.some.inj H
   go_enter Tryz.func56, Tryz.ntmps56
   try go_wp2_with (first | ((with_reducible refine gate_dst (N := 1) rfl ?_); refine zx 1 #[.bool a0_0, .int .u64 a0_1, .int .u64 a0_2, .int .i64 a0_3] 33 ?_; intro gb114 hg w10 hbox hb; have BK114 := Aside0.mk (hbox); have GW114 := zG HB hg; have GE114 := zG HB hg; replace HB := Aside0.mk (below_step (zB HB) hb); clear hb hbox hg))
   replace BK114 := Aside0.mk (blk_drew BK114.out); replace HB := Aside0.mk (below_drew1 HB.out)
   refine start_ (n := 17) (S := fun w' => w'.cell? ⟨gb114, 0, none⟩ = some (.bool a0_0) ∧ w'.cell? ⟨gb114, 1, none⟩ = some (.int .u64 a0_1) ∧ w'.cell? ⟨gb114, 2, none⟩ = some (.int .u64 a0_2) ∧ w'.cell? ⟨gb114, 3, none⟩ = some (.int .i64 a0_3)) (ds := []) #[false, false, false, false, false, false, false, false, false, false, false, false, false, false, false, false, false] (by kernel_rfl) rfl rfl ⟨zc BK114 0, zc BK114 1, zc BK114 2, zc BK114 3⟩ (fun hHeld => ?_); refine with_tabW address_ValidPrefix.tab1 address_ValidPrefix.bits1 (fun HT_ HW_ => ?_)
   generalize w10.drew = w11 at BK114 HB hHeld ⊢
   refine zp 0 5 HT_ ?_; refine zt 1 6 HT_ HW_ hHeld ?_; refine zo 2 7 HT_ (fun K hK => ?_)
   refine zg Tryz.func91 #[.agg #[.bool a0_0, .int .u64 a0_1, .int .u64 a0_2]] ?_
   with_reducible refine (address_Valid.calls a0_0 a0_1 a0_2 true _ A2.out).mono ?_
   rintro e w12 ⟨rfl, hb⟩
   refine ⟨_, rfl, ?_⟩
   replace BK114 := zkb BK114 hb; replace HB := Aside0.mk (below_step (zB HB) hb)
   try clear hb
   refine hK.out _ _ ⟨zc BK114 0, zc BK114 1, zc BK114 2, zc BK114 3⟩ (fun hHeld => ?_)
   clear hK K
   refine zn 7 ?_; refine zp 3 8 HT_ ?_; refine zp 4 9 HT_ ?_; refine zp 5 10 HT_ ?_; refine zt 6 11 HT_ HW_ hHeld ?_; refine zp 7 12 HT_ ?_; refine zp 8 13 HT_ ?_; refine zp 9 14 HT_ ?_; refine zp 10 15 HT_ ?_; refine zp 12 17 HT_ ?_; refine zt 11 16 HT_ HW_ hHeld ?_; refine zt 13 18 HT_ HW_ hHeld ?_; refine zo 14 19 HT_ (fun K hK => ?_)
   refine zg Tryz.func92 #[.agg #[.bool a0_0, .int .u64 a0_1, .int .u64 a0_2]] ?_
   with_reducible refine (address_size.calls a0_0 a0_1 a0_2 t116 _ A8.out).mono ?_
   rintro e w13 ⟨rfl, hb⟩
   refine ⟨_, rfl, ?_⟩
   replace BK114 := zkb BK114 hb; replace HB := Aside0.mk (below_step (zB HB) hb)
   try clear hb
   refine hK.out _ _ ⟨zc BK114 0, zc BK114 1, zc BK114 2, zc BK114 3⟩ (fun hHeld => ?_)
   clear hK K
   refine zn 19 ?_; refine zp 15 20 HT_ ?_; refine zp 16 21 HT_ ?_; refine zd HT_ ?_
   try go_wp2
   go_ret
   exact ⟨zr, zB HB⟩
 rw [if_neg c9] at H
 have c9b0 : decide (t116 < a0_3) = false := decide_eq_false c9; clear c9
 replace H := Option.bind_eq_some_iff.mp H
 obtain ⟨⟨t117, t118⟩, A140, H⟩ := H
 try dsimp only at H
 have A14 := Aside0.mk A140; clear A140
 by_cases c15 : (Go.bits .and .u64 a0_1 t117) = 0
 · rw [if_pos c15] at H
   have c15b0 : ((Go.bits .and .u64 a0_1 t117) == 0) = true := beq_iff_eq.mpr c15; have c15b1 : ((Go.bits .and .u64 a0_1 t117) != 0) = false := bne_eq_false_iff_eq.mpr c15; clear c15
   obtain rfl := Option.some.inj H
   go_enter Tryz.func56, Tryz.ntmps56
   try go_wp2_with (first | ((with_reducible refine gate_dst (N := 1) rfl ?_); refine zx 1 #[.bool a0_0, .int .u64 a0_1, .int .u64 a0_2, .int .i64 a0_3] 33 ?_; intro gb114 hg w16 hbox hb; have BK114 := Aside0.mk (hbox); have GW114 := zG HB hg; have GE114 := zG HB hg; replace HB := Aside0.mk (below_step (zB HB) hb); clear hb hbox hg))
   replace BK114 := Aside0.mk (blk_drew BK114.out); replace HB := Aside0.mk (below_drew1 HB.out)
   refine start_ (n := 17) (S := fun w' => w'.cell? ⟨gb114, 0, none⟩ = some (.bool a0_0) ∧ w'.cell? ⟨gb114, 1, none⟩ = some (.int .u64 a0_1) ∧ w'.cell? ⟨gb114, 2, none⟩ = some (.int .u64 a0_2) ∧ w'.cell? ⟨gb114, 3, none⟩ = some (.int .i64 a0_3)) (ds := []) #[false, false, false, false, false, false, false, false, false, false, false, false, false, false, false, false, false] (by kernel_rfl) rfl rfl ⟨zc BK114 0, zc BK114 1, zc BK114 2, zc BK114 3⟩ (fun hHeld => ?_); refine with_tabW address_ValidPrefix.tab1 address_ValidPrefix.bits1 (fun HT_ HW_ => ?_)
   generalize w16.drew = w17 at BK114 HB hHeld ⊢
   refine zp 0 5 HT_ ?_; refine zt 1 6 HT_ HW_ hHeld ?_; refine zo 2 7 HT_ (fun K hK => ?_)
   refine zg Tryz.func91 #[.agg #[.bool a0_0, .int .u64 a0_1, .int .u64 a0_2]] ?_
   with_reducible refine (address_Valid.calls a0_0 a0_1 a0_2 true _ A2.out).mono ?_
   rintro e w18 ⟨rfl, hb⟩
   refine ⟨_, rfl, ?_⟩
   replace BK114 := zkb BK114 hb; replace HB := Aside0.mk (below_step (zB HB) hb)
   try clear hb
   refine hK.out _ _ ⟨zc BK114 0, zc BK114 1, zc BK114 2, zc BK114 3⟩ (fun hHeld => ?_)
   clear hK K
   refine zn 7 ?_; refine zp 3 8 HT_ ?_; refine zp 4 9 HT_ ?_; refine zp 5 10 HT_ ?_; refine zt 6 11 HT_ HW_ hHeld ?_; refine zp 7 12 HT_ ?_; refine zp 8 13 HT_ ?_; refine zp 9 14 HT_ ?_; refine zp 10 15 HT_ ?_; refine zp 12 17 HT_ ?_; refine zt 11 16 HT_ HW_ hHeld ?_; refine zt 13 18 HT_ HW_ hHeld ?_; refine zo 14 19 HT_ (fun K hK => ?_)
   refine zg Tryz.func92 #[.agg #[.bool a0_0, .int .u64 a0_1, .int .u64 a0_2]] ?_
   with_reducible refine (address_size.calls a0_0 a0_1 a0_2 t116 _ A8.out).mono ?_
   rintro e w19 ⟨rfl, hb⟩
   refine ⟨_, rfl, ?_⟩
   replace BK114 := zkb BK114 hb; replace HB := Aside0.mk (below_step (zB HB) hb)
   try clear hb
   refine hK.out _ _ ⟨zc BK114 0, zc BK114 1, zc BK114 2, zc BK114 3⟩ (fun hHeld => ?_)
   clear hK K
   refine zn 19 ?_; refine zp 15 20 HT_ ?_; refine zp 16 21 HT_ ?_; refine zd HT_ ?_
   obtain ⟨hcz20_0, hcz20_1, hcz20_2, hcz20_3⟩ := zc4 BK114; obtain ⟨hfz20_0, hfz20_1, hfz20_2, hfz20_3⟩ := zf4 BK114
   try go_wp2_with (first | ((with_reducible refine gate_callee (f := 86) rfl ?_); refine zgl 27 Tryz.func86 #[.agg #[.bool a0_0, .int .u64 a0_1, .int .u64 a0_2], .int .i64 a0_3] ?_; (with_reducible refine (address_mask.calls a0_0 a0_1 a0_2 a0_3 t117 t118 _ A14.out).mono ?_); rintro e w21 ⟨rfl, hb⟩; refine ⟨_, rfl, ?_⟩; replace BK114 := zkb BK114 hb; replace HB := Aside0.mk (below_step (zB HB) hb); (try clear hb); obtain ⟨hcz22_0, hcz22_1, hcz22_2, hcz22_3⟩ := zc4 BK114; obtain ⟨hfz22_0, hfz22_1, hfz22_2, hfz22_3⟩ := zf4 BK114))
   go_ret
   exact ⟨zr, zB HB⟩
 rw [if_neg c15] at H
 have c15b0 : ((Go.bits .and .u64 a0_1 t117) == 0) = false := beq_eq_false_iff_ne.mpr c15
 have c15b1 : ((Go.bits .and .u64 a0_1 t117) != 0) = true := bne_iff_ne.mpr c15
 obtain rfl := Option.some.inj H
 go_enter Tryz.func56, Tryz.ntmps56
 try go_wp2_with (first | ((with_reducible refine gate_dst (N := 1) rfl ?_); refine zx 1 #[.bool a0_0, .int .u64 a0_1, .int .u64 a0_2, .int .i64 a0_3] 33 ?_; intro gb114 hg w23 hbox hb; have BK114 := Aside0.mk (hbox); have GW114 := zG HB hg; have GE114 := zG HB hg; replace HB := Aside0.mk (below_step (zB HB) hb); clear hb hbox hg))
 replace BK114 := Aside0.mk (blk_drew BK114.out); replace HB := Aside0.mk (below_drew1 HB.out)
 refine start_ (n := 17) (S := fun w' => w'.cell? ⟨gb114, 0, none⟩ = some (.bool a0_0) ∧ w'.cell? ⟨gb114, 1, none⟩ = some (.int .u64 a0_1) ∧ w'.cell? ⟨gb114, 2, none⟩ = some (.int .u64 a0_2) ∧ w'.cell? ⟨gb114, 3, none⟩ = some (.int .i64 a0_3)) (ds := []) #[false, false, false, false, false, false, false, false, false, false, false, false, false, false, false, false, false] (by kernel_rfl) rfl rfl ⟨zc BK114 0, zc BK114 1, zc BK114 2, zc BK114 3⟩ (fun hHeld => ?_); refine with_tabW address_ValidPrefix.tab1 address_ValidPrefix.bits1 (fun HT_ HW_ => ?_)
 generalize w23.drew = w24 at BK114 HB hHeld ⊢
 refine zp 0 5 HT_ ?_; refine zt 1 6 HT_ HW_ hHeld ?_; refine zo 2 7 HT_ (fun K hK => ?_)
 refine zg Tryz.func91 #[.agg #[.bool a0_0, .int .u64 a0_1, .int .u64 a0_2]] ?_
 with_reducible refine (address_Valid.calls a0_0 a0_1 a0_2 true _ A2.out).mono ?_
 rintro e w25 ⟨rfl, hb⟩
 refine ⟨_, rfl, ?_⟩
 replace BK114 := zkb BK114 hb; replace HB := Aside0.mk (below_step (zB HB) hb)
 try clear hb
 refine hK.out _ _ ⟨zc BK114 0, zc BK114 1, zc BK114 2, zc BK114 3⟩ (fun hHeld => ?_)
 clear hK K
 refine zn 7 ?_; refine zp 3 8 HT_ ?_; refine zp 4 9 HT_ ?_; refine zp 5 10 HT_ ?_; refine zt 6 11 HT_ HW_ hHeld ?_; refine zp 7 12 HT_ ?_; refine zp 8 13 HT_ ?_; refine zp 9 14 HT_ ?_; refine zp 10 15 HT_ ?_; refine zp 12 17 HT_ ?_; refine zt 11 16 HT_ HW_ hHeld ?_; refine zt 13 18 HT_ HW_ hHeld ?_; refine zo 14 19 HT_ (fun K hK => ?_)
 refine zg Tryz.func92 #[.agg #[.bool a0_0, .int .u64 a0_1, .int .u64 a0_2]] ?_
 with_reducible refine (address_size.calls a0_0 a0_1 a0_2 t116 _ A8.out).mono ?_
 rintro e w26 ⟨rfl, hb⟩
 refine ⟨_, rfl, ?_⟩
 replace BK114 := zkb BK114 hb; replace HB := Aside0.mk (below_step (zB HB) hb)
 try clear hb
 refine hK.out _ _ ⟨zc BK114 0, zc BK114 1, zc BK114 2, zc BK114 3⟩ (fun hHeld => ?_)
 clear hK K
 refine zn 19 ?_; refine zp 15 20 HT_ ?_; refine zp 16 21 HT_ ?_; refine zd HT_ ?_
 obtain ⟨hcz27_0, hcz27_1, hcz27_2, hcz27_3⟩ := zc4 BK114; obtain ⟨hfz27_0, hfz27_1, hfz27_2, hfz27_3⟩ := zf4 BK114
 try go_wp2_with (first | ((with_reducible refine gate_callee (f := 86) rfl ?_); refine zgl 27 Tryz.func86 #[.agg #[.bool a0_0, .int .u64 a0_1, .int .u64 a0_2], .int .i64 a0_3] ?_; (with_reducible refine (address_mask.calls a0_0 a0_1 a0_2 a0_3 t117 t118 _ A14.out).mono ?_); rintro e w28 ⟨rfl, hb⟩; refine ⟨_, rfl, ?_⟩; replace BK114 := zkb BK114 hb; replace HB := Aside0.mk (below_step (zB HB) hb); (try clear hb); obtain ⟨hcz29_0, hcz29_1, hcz29_2, hcz29_3⟩ := zc4 BK114; obtain ⟨hfz29_0, hfz29_1, hfz29_2, hfz29_3⟩ := zf4 BK114))
 go_ret
 exact ⟨zr, zB HB⟩
end Go.Proofs.YtnphnhkinjppjaaGreatDoor.Q
end

section
namespace Go.Proofs.YtnphnhkinjppjaaGreatDoor.Q
open Go.RowKit Go.Proofs.YtnphnhkinjppjaaGreatDoorW.PrintWords Go.Proofs.YtnphnhkinjppjaaGreatDoorW.PrintLast Go.Proofs.YtnphnhkinjppjaaGreatDoorW.PrintMore
attribute [local go_sem] max2_int min2_int max_two min_two max_three min_three max_four min_four
theorem eqA31 (d : Nat) (w : World) (x0 y0 : Bool) (x1 y1 : Int) (x2 y2 : Int) :
    (Op.equalIn (d + 2) 31 (.agg #[.bool x0, .int .u64 x1, .int .u64 x2]) (.agg #[.bool y0, .int .u64 y1, .int .u64 y2])).run Tryz.prog w = .ok (x0 == y0 && (x1 == y1 && (x2 == y2))) w := by
  refine eqA_of Tryz.underlying31 (by kernel_rfl) ?_
  refine eqf_cons (by rfl) (by go_simp; rfl) (by go_simp; rfl) (by go_simp) ?_
  refine eqf_cons (by rfl) (by go_simp; rfl) (by go_simp; rfl) (by go_simp) ?_
  exact eqf_last (by rfl) (by go_simp; rfl) (by go_simp; rfl) (by go_simp)
end Go.Proofs.YtnphnhkinjppjaaGreatDoor.Q
end

section
set_option maxHeartbeats 8000000
set_option maxRecDepth 100000
namespace Go.Proofs.YtnphnhkinjppjaaGreatDoor.Q
open Go.RowKit Go.Proofs.YtnphnhkinjppjaaGreatDoorW.PrintWords Go.Proofs.YtnphnhkinjppjaaGreatDoorW.PrintLast Go.Proofs.YtnphnhkinjppjaaGreatDoorW.PrintMore
attribute [local go_sem] max2_int min2_int max_two min_two max_three min_three max_four min_four
def r06_Width.f (a0_0 : Bool) (a0_1 : Int) (a0_2 : Int) : Option (Int) := if a0_0 = true then (some 128) else (some 32)
theorem r06_Width.calls (a0_0 : Bool) (a0_1 : Int) (a0_2 : Int) (r : Int) (w : World) (h : r06_Width.f a0_0 a0_1 a0_2 = some r) :
 Calls Tryz.prog 60 #[.agg #[.bool a0_0, .int .u64 a0_1, .int .u64 a0_2]] w fun e w' => e = .returned (.int .i64 r) ∧ Below w.heap.size w w' := by
 have hu31 := Tryz.underlying31
 have HB := Aside0.mk (Below.refl w.heap.size w)
 unfold r06_Width.f at h; have H := h
 clear h
 by_cases c2 : a0_0 = true
 · subst c2
   rw [if_pos rfl] at H
   obtain rfl := Option.some.inj H
   go_enter Tryz.func60, Tryz.ntmps60
   go_wp2_with (first | ((with_reducible refine gate_dst (N := 1) rfl ?_); refine zx 1 #[.bool true, .int .u64 a0_1, .int .u64 a0_2] 31 ?_; intro gb295 hg w3 hbox hb; have BK295 := Aside0.mk (hbox); have GW295 := zG HB hg; have GE295 := zG HB hg; replace HB := Aside0.mk (below_step (zB HB) hb); clear hb hbox hg; obtain ⟨hcz4_0, hcz4_1, hcz4_2⟩ := zc3 BK295; obtain ⟨hfz4_0, hfz4_1, hfz4_2⟩ := zf3 BK295))
   go_ret
   exact ⟨zr, zB HB⟩
 replace c2 := Bool.eq_false_iff.mpr c2
 subst c2; rw [if_neg zF] at H
 obtain rfl := Option.some.inj H
 go_enter Tryz.func60, Tryz.ntmps60
 go_wp2_with (first | ((with_reducible refine gate_dst (N := 1) rfl ?_); refine zx 1 #[.bool false, .int .u64 a0_1, .int .u64 a0_2] 31 ?_; intro gb295 hg w5 hbox hb; have BK295 := Aside0.mk (hbox); have GW295 := zG HB hg; have GE295 := zG HB hg; replace HB := Aside0.mk (below_step (zB HB) hb); clear hb hbox hg; obtain ⟨hcz6_0, hcz6_1, hcz6_2⟩ := zc3 BK295; obtain ⟨hfz6_0, hfz6_1, hfz6_2⟩ := zf3 BK295))
 go_ret
 exact ⟨zr, zB HB⟩
def r06_Bit.f (a0_0 : Bool) (a0_1 : Int) (a0_2 : Int) (a1 : Int) : Option (Bool) := if a0_0 = true then (if a1 < 64 then (if 0 ≤ (IntKind.u64.wrap (wrap64 (63 - a1))) then (some ((Go.bits .and .u64 (shr .u64 a0_1 (IntKind.u64.wrap (wrap64 (63 - a1)))) 1) == 1)) else (none)) else (if 0 ≤ (IntKind.u64.wrap (wrap64 (127 - a1))) then (some ((Go.bits .and .u64 (shr .u64 a0_2 (IntKind.u64.wrap (wrap64 (127 - a1)))) 1) == 1)) else (none))) else (if 0 ≤ (IntKind.u64.wrap (wrap64 (31 - a1))) then (some ((Go.bits .and .u64 (shr .u64 a0_2 (IntKind.u64.wrap (wrap64 (31 - a1)))) 1) == 1)) else (none))
theorem r06_Bit.calls (a0_0 : Bool) (a0_1 : Int) (a0_2 : Int) (a1 : Int) (r : Bool) (w : World) (h : r06_Bit.f a0_0 a0_1 a0_2 a1 = some r) :
 Calls Tryz.prog 87 #[.agg #[.bool a0_0, .int .u64 a0_1, .int .u64 a0_2], .int .i64 a1] w fun e w' => e = .returned (.bool r) ∧ Below w.heap.size w w' := by
 have hu31 := Tryz.underlying31
 have HB := Aside0.mk (Below.refl w.heap.size w)
 unfold r06_Bit.f at h; have H := h
 clear h
 by_cases c3 : a0_0 = true
 · subst c3
   rw [if_pos rfl] at H
   by_cases c4 : a1 < 64
   · rw [if_pos c4] at H
     have c4b0 : decide (a1 < 64) = true := decide_eq_true c4; clear c4
     obtain ⟨ji5, hji5⟩ : ∃ j_ : Int, (IntKind.u64.wrap (wrap64 (63 - a1))) = j_ := ⟨_, rfl⟩
     replace H : (if 0 ≤ (ji5) then (some ((Go.bits .and .u64 (shr .u64 a0_1 (ji5)) 1) == 1)) else (none)) = some r := by first | (rw [hji5] at H; exact H) | (simp only [hji5] at H ⊢; exact H)
     by_cases c6 : 0 ≤ (ji5)
     · rw [if_pos c6] at H
       have c6b0 := eq_true c6
       have c6b1 : decide (0 ≤ (ji5)) = true := decide_eq_true c6; clear c6
       obtain ⟨ji7, hji7⟩ : ∃ j_ : Int, (shr .u64 a0_1 (ji5)) = j_ := ⟨_, rfl⟩
       replace H : (some ((Go.bits .and .u64 (ji7) 1) == 1)) = some r := by first | (rw [hji7] at H; exact H) | (simp only [hji7] at H ⊢; exact H)
       have hji7_ : (a0_1 / 2 ^ min (ji5).toNat 64) = ji7 := hji7
       have hji7z : (ji5) ≤ 64 → (a0_1 / 2 ^ (ji5).toNat) = ji7 := shr_small hji7
       obtain rfl := Option.some.inj H
       go_enter Tryz.func87, Tryz.ntmps87
       go_wp2_with (first | ((with_reducible refine gate_dst (N := 2) rfl ?_); refine zx 2 #[.bool true, .int .u64 a0_1, .int .u64 a0_2] 31 ?_; intro gb296 hg w8 hbox hb; have BK296 := Aside0.mk (hbox); have GW296 := zG HB hg; have GE296 := zG HB hg; replace HB := Aside0.mk (below_step (zB HB) hb); clear hb hbox hg; obtain ⟨hcz9_0, hcz9_1, hcz9_2⟩ := zc3 BK296; obtain ⟨hfz9_0, hfz9_1, hfz9_2⟩ := zf3 BK296))
       go_ret
       exact ⟨by first | rfl | (simp [errW_none, errW_some] <;> rfl) | (simp only [← hji5, ← hji7]; first | rfl | (simp [errW_none, errW_some] <;> rfl)) | (simp [*, errW_none, errW_some] <;> rfl), by repeat (first | (with_reducible first | exact HB.out | apply below_alloc | apply pw_below_drewN | apply below_drew1 | refine below_set ?_ GE296.out) | exact HB.out)⟩
     rw [if_neg c6] at H
     exact absurd H (by simp)
   rw [if_neg c4] at H
   have c4b0 : decide (a1 < 64) = false := decide_eq_false c4; clear c4
   obtain ⟨ji10, hji10⟩ : ∃ j_ : Int, (IntKind.u64.wrap (wrap64 (127 - a1))) = j_ := ⟨_, rfl⟩
   replace H : (if 0 ≤ (ji10) then (some ((Go.bits .and .u64 (shr .u64 a0_2 (ji10)) 1) == 1)) else (none)) = some r := by first | (rw [hji10] at H; exact H) | (simp only [hji10] at H ⊢; exact H)
   by_cases c11 : 0 ≤ (ji10)
   · rw [if_pos c11] at H
     have c11b0 := eq_true c11
     have c11b1 : decide (0 ≤ (ji10)) = true := decide_eq_true c11; clear c11
     obtain ⟨ji12, hji12⟩ : ∃ j_ : Int, (shr .u64 a0_2 (ji10)) = j_ := ⟨_, rfl⟩
     replace H : (some ((Go.bits .and .u64 (ji12) 1) == 1)) = some r := by first | (rw [hji12] at H; exact H) | (simp only [hji12] at H ⊢; exact H)
     have hji12_ : (a0_2 / 2 ^ min (ji10).toNat 64) = ji12 := hji12
     have hji12z : (ji10) ≤ 64 → (a0_2 / 2 ^ (ji10).toNat) = ji12 := shr_small hji12
     obtain rfl := Option.some.inj H
     go_enter Tryz.func87, Tryz.ntmps87
     go_wp2_with (first | ((with_reducible refine gate_dst (N := 2) rfl ?_); refine zx 2 #[.bool true, .int .u64 a0_1, .int .u64 a0_2] 31 ?_; intro gb296 hg w13 hbox hb; have BK296 := Aside0.mk (hbox); have GW296 := zG HB hg; have GE296 := zG HB hg; replace HB := Aside0.mk (below_step (zB HB) hb); clear hb hbox hg; obtain ⟨hcz14_0, hcz14_1, hcz14_2⟩ := zc3 BK296; obtain ⟨hfz14_0, hfz14_1, hfz14_2⟩ := zf3 BK296))
     go_ret
     exact ⟨by first | rfl | (simp [errW_none, errW_some] <;> rfl) | (simp only [← hji10, ← hji12]; first | rfl | (simp [errW_none, errW_some] <;> rfl)) | (simp [*, errW_none, errW_some] <;> rfl), by repeat (first | (with_reducible first | exact HB.out | apply below_alloc | apply pw_below_drewN | apply below_drew1 | refine below_set ?_ GE296.out) | exact HB.out)⟩
   rw [if_neg c11] at H
   exact absurd H (by simp)
 replace c3 := Bool.eq_false_iff.mpr c3
 subst c3; rw [if_neg zF] at H
 obtain ⟨ji15, hji15⟩ : ∃ j_ : Int, (IntKind.u64.wrap (wrap64 (31 - a1))) = j_ := ⟨_, rfl⟩
 replace H : (if 0 ≤ (ji15) then (some ((Go.bits .and .u64 (shr .u64 a0_2 (ji15)) 1) == 1)) else (none)) = some r := by first | (rw [hji15] at H; exact H) | (simp only [hji15] at H ⊢; exact H)
 by_cases c16 : 0 ≤ (ji15)
 · rw [if_pos c16] at H
   have c16b0 := eq_true c16
   have c16b1 : decide (0 ≤ (ji15)) = true := decide_eq_true c16; clear c16
   obtain ⟨ji17, hji17⟩ : ∃ j_ : Int, (shr .u64 a0_2 (ji15)) = j_ := ⟨_, rfl⟩
   replace H : (some ((Go.bits .and .u64 (ji17) 1) == 1)) = some r := by first | (rw [hji17] at H; exact H) | (simp only [hji17] at H ⊢; exact H)
   have hji17_ : (a0_2 / 2 ^ min (ji15).toNat 64) = ji17 := hji17
   have hji17z : (ji15) ≤ 64 → (a0_2 / 2 ^ (ji15).toNat) = ji17 := shr_small hji17
   obtain rfl := Option.some.inj H
   go_enter Tryz.func87, Tryz.ntmps87
   go_wp2_with (first | ((with_reducible refine gate_dst (N := 2) rfl ?_); refine zx 2 #[.bool false, .int .u64 a0_1, .int .u64 a0_2] 31 ?_; intro gb296 hg w18 hbox hb; have BK296 := Aside0.mk (hbox); have GW296 := zG HB hg; have GE296 := zG HB hg; replace HB := Aside0.mk (below_step (zB HB) hb); clear hb hbox hg; obtain ⟨hcz19_0, hcz19_1, hcz19_2⟩ := zc3 BK296; obtain ⟨hfz19_0, hfz19_1, hfz19_2⟩ := zf3 BK296))
   go_ret
   exact ⟨by first | rfl | (simp [errW_none, errW_some] <;> rfl) | (simp only [← hji15, ← hji17]; first | rfl | (simp [errW_none, errW_some] <;> rfl)) | (simp [*, errW_none, errW_some] <;> rfl), by repeat (first | (with_reducible first | exact HB.out | apply below_alloc | apply pw_below_drewN | apply below_drew1 | refine below_set ?_ GE296.out) | exact HB.out)⟩
 rw [if_neg c16] at H
 exact absurd H (by simp)
def r06_with.l0 : Nat → Bool → Int → Bool → Int → Int → Option (Bool × Int × Int)
  | 0, _, _, _, _, _ => none
  | k + 1, x2, x7, x298000, x298001, x298002 => (r06_Width.f x298000 x298001 x298002).bind fun t299 => (if x7 < t299 then ((r06_Bit.f x298000 x298001 x298002 x7).bind fun t300 => (if (t300 == x2) = true then (r06_with.l0 k x2 (wrap64 (x7 + 1)) x298000 x298001 x298002) else (if x298000 = true then (if x7 < 64 then (if 0 ≤ (IntKind.u64.wrap (wrap64 (63 - x7))) then (r06_with.l0 k x2 (wrap64 (x7 + 1)) x298000 (Go.bits .xor .u64 x298001 (shl .u64 1 (IntKind.u64.wrap (wrap64 (63 - x7))))) x298002) else (none)) else (if 0 ≤ (IntKind.u64.wrap (wrap64 (127 - x7))) then (r06_with.l0 k x2 (wrap64 (x7 + 1)) x298000 x298001 (Go.bits .xor .u64 x298002 (shl .u64 1 (IntKind.u64.wrap (wrap64 (127 - x7)))))) else (none))) else (if 0 ≤ (IntKind.u64.wrap (wrap64 (31 - x7))) then (r06_with.l0 k x2 (wrap64 (x7 + 1)) x298000 x298001 (Go.bits .xor .u64 x298002 (shl .u64 1 (IntKind.u64.wrap (wrap64 (31 - x7)))))) else (none))))) else (some (x298000, x298001, x298002)))
def r06_with.f (k : Nat) (a0_0 : Bool) (a0_1 : Int) (a0_2 : Int) (a1 : Int) (a2 : Bool) : Option (Bool × Int × Int) := r06_with.l0 k a2 a1 a0_0 a0_1 a0_2
theorem r06_with.mono_l : ∀ k, (∀ y0 y1 y2 y3 y4, LeO (r06_with.l0 k y0 y1 y2 y3 y4) (r06_with.l0 (k + 1) y0 y1 y2 y3 y4))
  | 0 => fun _ _ _ _ _ r h => by simp [r06_with.l0] at h
  | k + 1 => by
    have ih0 := r06_with.mono_l k
    · intro y0 y1 y2 y3 y4
      unfold r06_with.l0
      repeat' first
      | (with_reducible exact ih0 _ _ _ _ _)
      | (with_reducible exact LeO.refl _)
      | (with_reducible exact LeO.none _)
      | (with_reducible refine LeO.ite ?_ ?_)
      | (with_reducible refine LeO.bind ?_ (fun _ => ?_))
theorem r06_with.mono : ∀ a0 a1 a2 a3 a4 k, LeO (r06_with.f k a0 a1 a2 a3 a4) (r06_with.f (k + 1) a0 a1 a2 a3 a4) := by
  intro a0 a1 a2 a3 a4 k
  have ih0 := r06_with.mono_l k
  unfold r06_with.f
  repeat' first
      | (with_reducible exact ih0 _ _ _ _ _)
      | (with_reducible exact LeO.refl _)
      | (with_reducible exact LeO.none _)
      | (with_reducible refine LeO.ite ?_ ?_)
      | (with_reducible refine LeO.bind ?_ (fun _ => ?_))
theorem r06_with.calls (k : Nat) (a0_0 : Bool) (a0_1 : Int) (a0_2 : Int) (a1 : Int) (a2 : Bool) (r1 : Bool) (r2 : Int) (r3 : Int) (w : World) (h : r06_with.f k a0_0 a0_1 a0_2 a1 a2 = some (r1, r2, r3)) :
 Calls Tryz.prog 54 #[.agg #[.bool a0_0, .int .u64 a0_1, .int .u64 a0_2], .int .i64 a1, .bool a2] w fun e w' => e = .returned (.agg #[.bool r1, .int .u64 r2, .int .u64 r3]) ∧ Below w.heap.size w w' := by
 have hu31 := Tryz.underlying31
 have HB := Aside0.mk (Below.refl w.heap.size w)
 unfold r06_with.f at h; have H := h
 clear h
 have H' := Aside0.mk H
 clear H
 go_enter Tryz.func54, Tryz.ntmps54
 go_wp2_with (first | ((with_reducible refine gate_dst (N := 3) rfl ?_); refine zx 3 #[.bool a0_0, .int .u64 a0_1, .int .u64 a0_2] 31 ?_; intro gb297 hg w4 hbox hb; have BK297 := Aside0.mk (hbox); have GW297 := zG HB hg; have GE297 := zG HB hg; replace HB := Aside0.mk (below_step (zB HB) hb); clear hb hbox hg) | ((with_reducible refine gate_dst (N := 6) rfl ?_); refine zx 6 #[.bool false, .int .u64 0, .int .u64 0] 31 ?_; intro gb298 hg w5 hbox hb; have BK298 := Aside0.mk (hbox); have GW298 := zG HB hg; have GE298 := zG HB hg; replace HB := Aside0.mk (below_step (zB HB) hb); have NB297_298 := Aside0.mk ((by rw [hg]; exact Nat.ne_of_lt (blk_lt (g := gb297) (o := .cells #[.bool a0_0, .int .u64 a0_1, .int .u64 a0_2] 31 (0, 0)) (zK BK297)) : gb297 ≠ gb298)); have NB298_297 := Aside0.mk ((by rw [hg]; exact Nat.ne_of_gt (blk_lt (g := gb297) (o := .cells #[.bool a0_0, .int .u64 a0_1, .int .u64 a0_2] 31 (0, 0)) (zK BK297)) : gb298 ≠ gb297)); replace BK297 := zkb BK297 hb; clear hb hbox hg))
 go_loopg [7] k (fun kq v7 w' => ∃ (x7_1 : Int) (x298001_1 : Int) (x298002_1 : Int), v7 = .int .i64 x7_1 ∧ Aside0 (r06_with.l0 kq a2 x7_1 a0_0 x298001_1 x298002_1 = some (r1, r2, r3)) ∧ Aside0 (kq ≤ k) ∧ Aside0 (w'.heap[gb297]? = some (.cells #[.bool a0_0, .int .u64 x298001_1, .int .u64 x298002_1] 31 (0, 0))) ∧ Aside0 (w'.heap[gb298]? = some (.cells #[.bool false, .int .u64 0, .int .u64 0] 31 (0, 0))) ∧ Aside0 (Below w.heap.size w w'))
 case atStart => exact ⟨(a1), (a0_1), (a0_2), zI, H', ⟨Nat.le_refl _⟩, ⟨zK BK297⟩, ⟨zK BK298⟩, ⟨zB HB⟩⟩
 case round =>
  clear H'
  obtain ⟨x7_1, x298001_1, x298002_1, rfl, HA, HK1, BK297, BK298, HB⟩ := hrel
  rcases gk with _ | k1
  · exact absurd HA.out (by simp [r06_with.l0])
  have H := HA.out
  clear HA
  simp only [r06_with.l0] at H
  replace H := Option.bind_eq_some_iff.mp H
  obtain ⟨t299, A60, H⟩ := H
  replace H : (if x7_1 < t299 then ((r06_Bit.f a0_0 x298001_1 x298002_1 x7_1).bind fun t300 => (if (t300 == a2) = true then (r06_with.l0 k1 a2 (wrap64 (x7_1 + 1)) a0_0 x298001_1 x298002_1) else (if a0_0 = true then (if x7_1 < 64 then (if 0 ≤ (IntKind.u64.wrap (wrap64 (63 - x7_1))) then (r06_with.l0 k1 a2 (wrap64 (x7_1 + 1)) a0_0 (Go.bits .xor .u64 x298001_1 (shl .u64 1 (IntKind.u64.wrap (wrap64 (63 - x7_1))))) x298002_1) else (none)) else (if 0 ≤ (IntKind.u64.wrap (wrap64 (127 - x7_1))) then (r06_with.l0 k1 a2 (wrap64 (x7_1 + 1)) a0_0 x298001_1 (Go.bits .xor .u64 x298002_1 (shl .u64 1 (IntKind.u64.wrap (wrap64 (127 - x7_1)))))) else (none))) else (if 0 ≤ (IntKind.u64.wrap (wrap64 (31 - x7_1))) then (r06_with.l0 k1 a2 (wrap64 (x7_1 + 1)) a0_0 x298001_1 (Go.bits .xor .u64 x298002_1 (shl .u64 1 (IntKind.u64.wrap (wrap64 (31 - x7_1)))))) else (none))))) else (some (a0_0, x298001_1, x298002_1))) = some (r1, r2, r3) := H
  have A6 := Aside0.mk A60; clear A60
  by_cases c7 : x7_1 < t299
  rotate_left
  · rw [if_neg c7] at H
    have c7b0 : decide (x7_1 < t299) = false := decide_eq_false c7; clear c7
    simp only [Option.some.injEq, Prod.mk.injEq] at H
    obtain ⟨rfl, rfl, rfl⟩ := H
    have hnb44 := NB297_298.out
    have hnc44 := NB298_297.out
    obtain ⟨hcz45_0, hcz45_1, hcz45_2⟩ := zc3 BK297; obtain ⟨hfz45_0, hfz45_1, hfz45_2⟩ := zf3 BK297
    go_wp2_with (first | ((with_reducible refine gate_callee (f := 60) rfl ?_); refine zgl 11 Tryz.func60 #[.agg #[.bool a0_0, .int .u64 x298001_1, .int .u64 x298002_1]] ?_; (with_reducible refine (r06_Width.calls a0_0 x298001_1 x298002_1 t299 _ A6.out).mono ?_); rintro e w46 ⟨rfl, hb⟩; refine ⟨_, rfl, ?_⟩; replace BK297 := zkb BK297 hb; replace BK298 := zkb BK298 hb; replace HB := Aside0.mk (below_step (zB HB) hb); (try clear hb); obtain ⟨hcz47_0, hcz47_1, hcz47_2⟩ := zc3 BK297; obtain ⟨hfz47_0, hfz47_1, hfz47_2⟩ := zf3 BK297; obtain ⟨hcz48_0, hcz48_1, hcz48_2⟩ := zc3 BK298; obtain ⟨hfz48_0, hfz48_1, hfz48_2⟩ := zf3 BK298))
    refine bodyPost_ret (results_cell_row rfl _ _ gb298 31 #[.bool a0_0, .int .u64 x298001_1, .int .u64 x298002_1] (0, 0) _ rfl (by refine zL ?_; refine blk_put (cs := #[.bool a0_0, .int .u64 x298001_1, .int .u64 0]) ?_ 2 _ rfl; refine zL ?_; refine blk_put (cs := #[.bool a0_0, .int .u64 0, .int .u64 0]) ?_ 1 _ rfl; refine zL ?_; refine blk_put (cs := #[.bool false, .int .u64 0, .int .u64 0]) ?_ 0 _ rfl; refine zL ?_; exact BK298.out) Tryz.underlying31 rfl (by kernel_rfl)) rfl ?_
    exact ⟨zr, zB HB⟩
  rw [if_pos c7] at H
  have c7b0 : decide (x7_1 < t299) = true := decide_eq_true c7; clear c7
  replace H := Option.bind_eq_some_iff.mp H
  obtain ⟨t300, A80, H⟩ := H
  replace H : (if (t300 == a2) = true then (r06_with.l0 k1 a2 (wrap64 (x7_1 + 1)) a0_0 x298001_1 x298002_1) else (if a0_0 = true then (if x7_1 < 64 then (if 0 ≤ (IntKind.u64.wrap (wrap64 (63 - x7_1))) then (r06_with.l0 k1 a2 (wrap64 (x7_1 + 1)) a0_0 (Go.bits .xor .u64 x298001_1 (shl .u64 1 (IntKind.u64.wrap (wrap64 (63 - x7_1))))) x298002_1) else (none)) else (if 0 ≤ (IntKind.u64.wrap (wrap64 (127 - x7_1))) then (r06_with.l0 k1 a2 (wrap64 (x7_1 + 1)) a0_0 x298001_1 (Go.bits .xor .u64 x298002_1 (shl .u64 1 (IntKind.u64.wrap (wrap64 (127 - x7_1)))))) else (none))) else (if 0 ≤ (IntKind.u64.wrap (wrap64 (31 - x7_1))) then (r06_with.l0 k1 a2 (wrap64 (x7_1 + 1)) a0_0 x298001_1 (Go.bits .xor .u64 x298002_1 (shl .u64 1 (IntKind.u64.wrap (wrap64 (31 - x7_1)))))) else (none)))) = some (r1, r2, r3) := H
  have A8 := Aside0.mk A80; clear A80
  by_cases c9 : (t300 == a2) = true
  · rw [if_pos c9] at H
    have c9b0 : (t300 == a2) = true := c9
    (try (have c9b1 : decide (t300 = a2) = true := by first | (simpa using c9) | exact decide_eq_true (Decidable.not_not.1 (fun hn => c9 (bne_iff_ne.2 hn))) | exact beq_iff_eq.2 (Decidable.not_not.1 (fun hn => c9 (bne_iff_ne.2 hn))) | exact decide_eq_false (bne_iff_ne.1 c9) | exact beq_eq_false_iff_ne.2 (bne_iff_ne.1 c9) | exact bne_iff_ne.1 c9))
    (try (have c9b2 : (t300 == a2) = true := by first | (simpa using c9) | exact decide_eq_true (Decidable.not_not.1 (fun hn => c9 (bne_iff_ne.2 hn))) | exact beq_iff_eq.2 (Decidable.not_not.1 (fun hn => c9 (bne_iff_ne.2 hn))) | exact decide_eq_false (bne_iff_ne.1 c9) | exact beq_eq_false_iff_ne.2 (bne_iff_ne.1 c9) | exact bne_iff_ne.1 c9))
    clear c9
    have H' := Aside0.mk H
    clear H
    have hnb10 := NB297_298.out
    have hnc10 := NB298_297.out
    obtain ⟨hcz11_0, hcz11_1, hcz11_2⟩ := zc3 BK297; obtain ⟨hfz11_0, hfz11_1, hfz11_2⟩ := zf3 BK297
    go_wp2_with (first | ((with_reducible refine gate_callee (f := 60) rfl ?_); refine zgl 11 Tryz.func60 #[.agg #[.bool a0_0, .int .u64 x298001_1, .int .u64 x298002_1]] ?_; (with_reducible refine (r06_Width.calls a0_0 x298001_1 x298002_1 t299 _ A6.out).mono ?_); rintro e w12 ⟨rfl, hb⟩; refine ⟨_, rfl, ?_⟩; replace BK297 := zkb BK297 hb; replace BK298 := zkb BK298 hb; replace HB := Aside0.mk (below_step (zB HB) hb); (try clear hb); obtain ⟨hcz13_0, hcz13_1, hcz13_2⟩ := zc3 BK297; obtain ⟨hfz13_0, hfz13_1, hfz13_2⟩ := zf3 BK297) | ((with_reducible refine gate_callee (f := 87) rfl ?_); refine zgl 17 Tryz.func87 #[.agg #[.bool a0_0, .int .u64 x298001_1, .int .u64 x298002_1], .int .i64 x7_1] ?_; (with_reducible refine (r06_Bit.calls a0_0 x298001_1 x298002_1 x7_1 t300 _ A8.out).mono ?_); rintro e w14 ⟨rfl, hb⟩; refine ⟨_, rfl, ?_⟩; replace BK297 := zkb BK297 hb; replace BK298 := zkb BK298 hb; replace HB := Aside0.mk (below_step (zB HB) hb); (try clear hb)))
    go_roundg k1
    case measure => have := HK1.out; omega
    case rel => exact ⟨(wrap64 (x7_1 + 1)), (x298001_1), (x298002_1), zI, H', ⟨by have := HK1.out; omega⟩, ⟨zK BK297⟩, ⟨zK BK298⟩, ⟨zB HB⟩⟩
  rw [if_neg c9] at H
  have c9b0 : (t300 == a2) = false := by simpa using c9
  (try (have c9b1 : decide (t300 = a2) = false := by first | (simpa using c9) | exact decide_eq_true (Decidable.not_not.1 (fun hn => c9 (bne_iff_ne.2 hn))) | exact beq_iff_eq.2 (Decidable.not_not.1 (fun hn => c9 (bne_iff_ne.2 hn))) | exact decide_eq_false (bne_iff_ne.1 c9) | exact beq_eq_false_iff_ne.2 (bne_iff_ne.1 c9) | exact bne_iff_ne.1 c9))
  (try (have c9b2 : (t300 == a2) = false := by first | (simpa using c9) | exact decide_eq_true (Decidable.not_not.1 (fun hn => c9 (bne_iff_ne.2 hn))) | exact beq_iff_eq.2 (Decidable.not_not.1 (fun hn => c9 (bne_iff_ne.2 hn))) | exact decide_eq_false (bne_iff_ne.1 c9) | exact beq_eq_false_iff_ne.2 (bne_iff_ne.1 c9) | exact bne_iff_ne.1 c9))
  (try (have c9b3 : ¬ (t300 = a2) := by first | (simpa using c9) | exact decide_eq_true (Decidable.not_not.1 (fun hn => c9 (bne_iff_ne.2 hn))) | exact beq_iff_eq.2 (Decidable.not_not.1 (fun hn => c9 (bne_iff_ne.2 hn))) | exact decide_eq_false (bne_iff_ne.1 c9) | exact beq_eq_false_iff_ne.2 (bne_iff_ne.1 c9) | exact bne_iff_ne.1 c9))
  clear c9
  by_cases c15 : a0_0 = true
  · subst c15
    rw [if_pos rfl] at H
    by_cases c16 : x7_1 < 64
    · rw [if_pos c16] at H
      have c16b0 : decide (x7_1 < 64) = true := decide_eq_true c16; clear c16
      obtain ⟨ji17, hji17⟩ : ∃ j_ : Int, (IntKind.u64.wrap (wrap64 (63 - x7_1))) = j_ := ⟨_, rfl⟩
      replace H : (if 0 ≤ (ji17) then (r06_with.l0 k1 a2 (wrap64 (x7_1 + 1)) true (Go.bits .xor .u64 x298001_1 (shl .u64 1 (ji17))) x298002_1) else (none)) = some (r1, r2, r3) := by first | (rw [hji17] at H; exact H) | (simp only [hji17] at H ⊢; exact H)
      (try rw [hji17] at A6)
      (try rw [hji17] at A8)
      by_cases c18 : 0 ≤ (ji17)
      rotate_left
      · rw [if_neg c18] at H
        exact absurd H (by simp)
      rw [if_pos c18] at H
      have c18b0 := eq_true c18
      have c18b1 : decide (0 ≤ (ji17)) = true := decide_eq_true c18; clear c18
      obtain ⟨ji19, hji19⟩ : ∃ j_ : Int, (shl .u64 1 (ji17)) = j_ := ⟨_, rfl⟩
      replace H : (r06_with.l0 k1 a2 (wrap64 (x7_1 + 1)) true (Go.bits .xor .u64 x298001_1 (ji19)) x298002_1) = some (r1, r2, r3) := by first | (rw [hji19] at H; exact H) | (simp only [hji19] at H ⊢; exact H)
      (try rw [hji19] at A6)
      (try rw [hji19] at A8)
      have hji19_ : (IntKind.u64.wrap (1 * 2 ^ min (ji17).toNat 64)) = ji19 := hji19
      have hji19z : (ji17) ≤ 64 → (IntKind.u64.wrap (1 * 2 ^ (ji17).toNat)) = ji19 := shl_small hji19
      have hji19u : (IntKind.u64.wrap (2 ^ min (ji17).toNat 64)) = ji19 := by have h_ := hji19_; rw [Int.one_mul] at h_; exact h_
      have hji19v : (ji17) ≤ 64 → (IntKind.u64.wrap (2 ^ (ji17).toNat)) = ji19 := fun hle_ => by have h_ := hji19z hle_; rw [Int.one_mul] at h_; exact h_
      have H' := Aside0.mk H
      clear H
      have hnb20 := NB297_298.out
      have hnc20 := NB298_297.out
      obtain ⟨hcz21_0, hcz21_1, hcz21_2⟩ := zc3 BK297; obtain ⟨hfz21_0, hfz21_1, hfz21_2⟩ := zf3 BK297
      go_wp2_with (first | ((with_reducible refine gate_callee (f := 60) rfl ?_); refine zgl 11 Tryz.func60 #[.agg #[.bool true, .int .u64 x298001_1, .int .u64 x298002_1]] ?_; (with_reducible refine (r06_Width.calls true x298001_1 x298002_1 t299 _ A6.out).mono ?_); rintro e w22 ⟨rfl, hb⟩; refine ⟨_, rfl, ?_⟩; replace BK297 := zkb BK297 hb; replace BK298 := zkb BK298 hb; replace HB := Aside0.mk (below_step (zB HB) hb); (try clear hb); obtain ⟨hcz23_0, hcz23_1, hcz23_2⟩ := zc3 BK297; obtain ⟨hfz23_0, hfz23_1, hfz23_2⟩ := zf3 BK297) | ((with_reducible refine gate_callee (f := 87) rfl ?_); refine zgl 17 Tryz.func87 #[.agg #[.bool true, .int .u64 x298001_1, .int .u64 x298002_1], .int .i64 x7_1] ?_; (with_reducible refine (r06_Bit.calls true x298001_1 x298002_1 x7_1 t300 _ A8.out).mono ?_); rintro e w24 ⟨rfl, hb⟩; refine ⟨_, rfl, ?_⟩; replace BK297 := zkb BK297 hb; replace BK298 := zkb BK298 hb; replace HB := Aside0.mk (below_step (zB HB) hb); (try clear hb); obtain ⟨hcz25_0, hcz25_1, hcz25_2⟩ := zc3 BK297; obtain ⟨hfz25_0, hfz25_1, hfz25_2⟩ := zf3 BK297))
      go_roundg k1
      case measure => have := HK1.out; omega
      case rel => exact ⟨(wrap64 (x7_1 + 1)), (Go.bits .xor .u64 x298001_1 (ji19)), (x298002_1), zI, H', ⟨by have := HK1.out; omega⟩, ⟨by refine zL ?_; refine blk_put (cs := #[.bool true, .int .u64 x298001_1, .int .u64 x298002_1]) ?_ 1 _ rfl; refine zL ?_; exact BK297.out⟩, ⟨by refine zL ?_; refine blk_far ?_ NB298_297.out _; refine zL ?_; exact BK298.out⟩, ⟨zB HB⟩⟩
    rw [if_neg c16] at H
    have c16b0 : decide (x7_1 < 64) = false := decide_eq_false c16; clear c16
    obtain ⟨ji26, hji26⟩ : ∃ j_ : Int, (IntKind.u64.wrap (wrap64 (127 - x7_1))) = j_ := ⟨_, rfl⟩
    replace H : (if 0 ≤ (ji26) then (r06_with.l0 k1 a2 (wrap64 (x7_1 + 1)) true x298001_1 (Go.bits .xor .u64 x298002_1 (shl .u64 1 (ji26)))) else (none)) = some (r1, r2, r3) := by first | (rw [hji26] at H; exact H) | (simp only [hji26] at H ⊢; exact H)
    (try rw [hji26] at A6)
    (try rw [hji26] at A8)
    by_cases c27 : 0 ≤ (ji26)
    rotate_left
    · rw [if_neg c27] at H
      exact absurd H (by simp)
    rw [if_pos c27] at H
    have c27b0 := eq_true c27
    have c27b1 : decide (0 ≤ (ji26)) = true := decide_eq_true c27; clear c27
    obtain ⟨ji28, hji28⟩ : ∃ j_ : Int, (shl .u64 1 (ji26)) = j_ := ⟨_, rfl⟩
    replace H : (r06_with.l0 k1 a2 (wrap64 (x7_1 + 1)) true x298001_1 (Go.bits .xor .u64 x298002_1 (ji28))) = some (r1, r2, r3) := by first | (rw [hji28] at H; exact H) | (simp only [hji28] at H ⊢; exact H)
    (try rw [hji28] at A6)
    (try rw [hji28] at A8)
    have hji28_ : (IntKind.u64.wrap (1 * 2 ^ min (ji26).toNat 64)) = ji28 := hji28
    have hji28z : (ji26) ≤ 64 → (IntKind.u64.wrap (1 * 2 ^ (ji26).toNat)) = ji28 := shl_small hji28
    have hji28u : (IntKind.u64.wrap (2 ^ min (ji26).toNat 64)) = ji28 := by have h_ := hji28_; rw [Int.one_mul] at h_; exact h_
    have hji28v : (ji26) ≤ 64 → (IntKind.u64.wrap (2 ^ (ji26).toNat)) = ji28 := fun hle_ => by have h_ := hji28z hle_; rw [Int.one_mul] at h_; exact h_
    have H' := Aside0.mk H
    clear H
    have hnb29 := NB297_298.out
    have hnc29 := NB298_297.out
    obtain ⟨hcz30_0, hcz30_1, hcz30_2⟩ := zc3 BK297; obtain ⟨hfz30_0, hfz30_1, hfz30_2⟩ := zf3 BK297
    go_wp2_with (first | ((with_reducible refine gate_callee (f := 60) rfl ?_); refine zgl 11 Tryz.func60 #[.agg #[.bool true, .int .u64 x298001_1, .int .u64 x298002_1]] ?_; (with_reducible refine (r06_Width.calls true x298001_1 x298002_1 t299 _ A6.out).mono ?_); rintro e w31 ⟨rfl, hb⟩; refine ⟨_, rfl, ?_⟩; replace BK297 := zkb BK297 hb; replace BK298 := zkb BK298 hb; replace HB := Aside0.mk (below_step (zB HB) hb); (try clear hb); obtain ⟨hcz32_0, hcz32_1, hcz32_2⟩ := zc3 BK297; obtain ⟨hfz32_0, hfz32_1, hfz32_2⟩ := zf3 BK297) | ((with_reducible refine gate_callee (f := 87) rfl ?_); refine zgl 17 Tryz.func87 #[.agg #[.bool true, .int .u64 x298001_1, .int .u64 x298002_1], .int .i64 x7_1] ?_; (with_reducible refine (r06_Bit.calls true x298001_1 x298002_1 x7_1 t300 _ A8.out).mono ?_); rintro e w33 ⟨rfl, hb⟩; refine ⟨_, rfl, ?_⟩; replace BK297 := zkb BK297 hb; replace BK298 := zkb BK298 hb; replace HB := Aside0.mk (below_step (zB HB) hb); (try clear hb); obtain ⟨hcz34_0, hcz34_1, hcz34_2⟩ := zc3 BK297; obtain ⟨hfz34_0, hfz34_1, hfz34_2⟩ := zf3 BK297))
    go_roundg k1
    case measure => have := HK1.out; omega
    case rel => exact ⟨(wrap64 (x7_1 + 1)), (x298001_1), (Go.bits .xor .u64 x298002_1 (ji28)), zI, H', ⟨by have := HK1.out; omega⟩, ⟨by refine zL ?_; refine blk_put (cs := #[.bool true, .int .u64 x298001_1, .int .u64 x298002_1]) ?_ 2 _ rfl; refine zL ?_; exact BK297.out⟩, ⟨by refine zL ?_; refine blk_far ?_ NB298_297.out _; refine zL ?_; exact BK298.out⟩, ⟨zB HB⟩⟩
  replace c15 := Bool.eq_false_iff.mpr c15
  subst c15; rw [if_neg zF] at H
  obtain ⟨ji35, hji35⟩ : ∃ j_ : Int, (IntKind.u64.wrap (wrap64 (31 - x7_1))) = j_ := ⟨_, rfl⟩
  replace H : (if 0 ≤ (ji35) then (r06_with.l0 k1 a2 (wrap64 (x7_1 + 1)) false x298001_1 (Go.bits .xor .u64 x298002_1 (shl .u64 1 (ji35)))) else (none)) = some (r1, r2, r3) := by first | (rw [hji35] at H; exact H) | (simp only [hji35] at H ⊢; exact H)
  (try rw [hji35] at A6)
  (try rw [hji35] at A8)
  by_cases c36 : 0 ≤ (ji35)
  rotate_left
  · rw [if_neg c36] at H
    exact absurd H (by simp)
  rw [if_pos c36] at H
  have c36b0 := eq_true c36
  have c36b1 : decide (0 ≤ (ji35)) = true := decide_eq_true c36; clear c36
  obtain ⟨ji37, hji37⟩ : ∃ j_ : Int, (shl .u64 1 (ji35)) = j_ := ⟨_, rfl⟩
  replace H : (r06_with.l0 k1 a2 (wrap64 (x7_1 + 1)) false x298001_1 (Go.bits .xor .u64 x298002_1 (ji37))) = some (r1, r2, r3) := by first | (rw [hji37] at H; exact H) | (simp only [hji37] at H ⊢; exact H)
  (try rw [hji37] at A6)
  (try rw [hji37] at A8)
  have hji37_ : (IntKind.u64.wrap (1 * 2 ^ min (ji35).toNat 64)) = ji37 := hji37
  have hji37z : (ji35) ≤ 64 → (IntKind.u64.wrap (1 * 2 ^ (ji35).toNat)) = ji37 := shl_small hji37
  have hji37u : (IntKind.u64.wrap (2 ^ min (ji35).toNat 64)) = ji37 := by have h_ := hji37_; rw [Int.one_mul] at h_; exact h_
  have hji37v : (ji35) ≤ 64 → (IntKind.u64.wrap (2 ^ (ji35).toNat)) = ji37 := fun hle_ => by have h_ := hji37z hle_; rw [Int.one_mul] at h_; exact h_
  have H' := Aside0.mk H
  clear H
  have hnb38 := NB297_298.out
  have hnc38 := NB298_297.out
  obtain ⟨hcz39_0, hcz39_1, hcz39_2⟩ := zc3 BK297; obtain ⟨hfz39_0, hfz39_1, hfz39_2⟩ := zf3 BK297
  go_wp2_with (first | ((with_reducible refine gate_callee (f := 60) rfl ?_); refine zgl 11 Tryz.func60 #[.agg #[.bool false, .int .u64 x298001_1, .int .u64 x298002_1]] ?_; (with_reducible refine (r06_Width.calls false x298001_1 x298002_1 t299 _ A6.out).mono ?_); rintro e w40 ⟨rfl, hb⟩; refine ⟨_, rfl, ?_⟩; replace BK297 := zkb BK297 hb; replace BK298 := zkb BK298 hb; replace HB := Aside0.mk (below_step (zB HB) hb); (try clear hb); obtain ⟨hcz41_0, hcz41_1, hcz41_2⟩ := zc3 BK297; obtain ⟨hfz41_0, hfz41_1, hfz41_2⟩ := zf3 BK297) | ((with_reducible refine gate_callee (f := 87) rfl ?_); refine zgl 17 Tryz.func87 #[.agg #[.bool false, .int .u64 x298001_1, .int .u64 x298002_1], .int .i64 x7_1] ?_; (with_reducible refine (r06_Bit.calls false x298001_1 x298002_1 x7_1 t300 _ A8.out).mono ?_); rintro e w42 ⟨rfl, hb⟩; refine ⟨_, rfl, ?_⟩; replace BK297 := zkb BK297 hb; replace BK298 := zkb BK298 hb; replace HB := Aside0.mk (below_step (zB HB) hb); (try clear hb); obtain ⟨hcz43_0, hcz43_1, hcz43_2⟩ := zc3 BK297; obtain ⟨hfz43_0, hfz43_1, hfz43_2⟩ := zf3 BK297))
  go_roundg k1
  case measure => have := HK1.out; omega
  case rel => exact ⟨(wrap64 (x7_1 + 1)), (x298001_1), (Go.bits .xor .u64 x298002_1 (ji37)), zI, H', ⟨by have := HK1.out; omega⟩, ⟨by refine zL ?_; refine blk_put (cs := #[.bool false, .int .u64 x298001_1, .int .u64 x298002_1]) ?_ 2 _ rfl; refine zL ?_; exact BK297.out⟩, ⟨by refine zL ?_; refine blk_far ?_ NB298_297.out _; refine zL ?_; exact BK298.out⟩, ⟨zB HB⟩⟩
end Go.Proofs.YtnphnhkinjppjaaGreatDoor.Q
end

section
set_option maxHeartbeats 8000000
set_option maxRecDepth 100000
namespace Go.Proofs.YtnphnhkinjppjaaGreatDoor.Q
open Go.RowKit Go.Proofs.YtnphnhkinjppjaaGreatDoorW.PrintWords Go.Proofs.YtnphnhkinjppjaaGreatDoorW.PrintLast Go.Proofs.YtnphnhkinjppjaaGreatDoorW.PrintMore
attribute [local go_sem] max2_int min2_int max_two min_two max_three min_three max_four min_four
attribute [local go_sem high] eqA31
def r06_Contains.f (k : Nat) (a0_0 : Bool) (a0_1 : Int) (a0_2 : Int) (a0_3 : Int) (a1_0 : Bool) (a1_1 : Int) (a1_2 : Int) : Option (Bool) := if (a0_0 == a1_0) = true then ((r06_with.f k a1_0 a1_1 a1_2 a0_3 false).bind fun bt726 => (some (bt726.1 == a0_0 && (bt726.2.1 == a0_1 && (bt726.2.2 == a0_2))))) else (some false)
theorem r06_Contains.mono : ∀ a0 a1 a2 a3 a4 a5 a6 k, LeO (r06_Contains.f k a0 a1 a2 a3 a4 a5 a6) (r06_Contains.f (k + 1) a0 a1 a2 a3 a4 a5 a6) := by
  intro a0 a1 a2 a3 a4 a5 a6 k
  unfold r06_Contains.f
  repeat' first
      | (with_reducible exact r06_with.mono _ _ _ _ _ _)
      | (with_reducible exact LeO.refl _)
      | (with_reducible exact LeO.none _)
      | (with_reducible refine LeO.ite ?_ ?_)
      | (with_reducible refine LeO.bind ?_ (fun _ => ?_))
def r06_Contains.T1 : Bool × List (List Nat × List Nat) := (true, [([], []), ([0], [0]), ([1], [1]), ([], []), ([3], [3]), ([2, 4], [2, 4]), ([5], [5]), ([6], [6]), ([6], [6]), ([8, 6], [6, 8]), ([7, 9, 6, 6], [6, 7, 9]), ([6], [6]), ([11, 6], [6, 11]), ([10, 12, 6], [6, 10, 12]), ([6, 13], [6, 13]), ([14, 10, 0, 1, 2, 3, 4, 5, 6, 7, 8, 9, 10, 11, 12, 13, 14], [14])])
def r06_Contains.B1 : List Nat := [0, 1, 3, 0, 8, 31, 63, 127, 127, 383, 1023, 127, 2175, 8191, 16383, 32767]
theorem r06_Contains.tab1 : rtab .any (opsOf Tryz.f29 1) = r06_Contains.T1 := by kernel_rfl
theorem r06_Contains.bits1 : waitsOk r06_Contains.T1.2 r06_Contains.B1 = true := by kernel_rfl
theorem r06_Contains.calls (k : Nat) (a0_0 : Bool) (a0_1 : Int) (a0_2 : Int) (a0_3 : Int) (a1_0 : Bool) (a1_1 : Int) (a1_2 : Int) (r : Bool) (w : World) (h : r06_Contains.f k a0_0 a0_1 a0_2 a0_3 a1_0 a1_1 a1_2 = some r) :
 Calls Tryz.prog 29 #[.agg #[.bool a0_0, .int .u64 a0_1, .int .u64 a0_2, .int .i64 a0_3], .agg #[.bool a1_0, .int .u64 a1_1, .int .u64 a1_2]] w fun e w' => e = .returned (.bool r) ∧ Below w.heap.size w w' := by
 have hu33 := Tryz.underlying33
 have hu31 := Tryz.underlying31
 have HB := Aside0.mk (Below.refl w.heap.size w)
 unfold r06_Contains.f at h; have H := h
 clear h
 by_cases c3 : (a0_0 == a1_0) = true
 · rw [if_pos c3] at H
   have c3b0 : (a0_0 == a1_0) = true := c3
   (try (have c3b1 : decide (a0_0 = a1_0) = true := by first | (simpa using c3) | exact decide_eq_true (Decidable.not_not.1 (fun hn => c3 (bne_iff_ne.2 hn))) | exact beq_iff_eq.2 (Decidable.not_not.1 (fun hn => c3 (bne_iff_ne.2 hn))) | exact decide_eq_false (bne_iff_ne.1 c3) | exact beq_eq_false_iff_ne.2 (bne_iff_ne.1 c3) | exact bne_iff_ne.1 c3))
   (try (have c3b2 : (a0_0 == a1_0) = true := by first | (simpa using c3) | exact decide_eq_true (Decidable.not_not.1 (fun hn => c3 (bne_iff_ne.2 hn))) | exact beq_iff_eq.2 (Decidable.not_not.1 (fun hn => c3 (bne_iff_ne.2 hn))) | exact decide_eq_false (bne_iff_ne.1 c3) | exact beq_eq_false_iff_ne.2 (bne_iff_ne.1 c3) | exact bne_iff_ne.1 c3))
   clear c3
   replace H := Option.bind_eq_some_iff.mp H
   obtain ⟨⟨t726, t727, t728⟩, A40, H⟩ := H
   try dsimp only at H
   have A4 := Aside0.mk A40; clear A40
   obtain rfl := Option.some.inj H
   go_enter Tryz.func29, Tryz.ntmps29
   try go_wp2_with (first | ((with_reducible refine gate_dst (N := 2) rfl ?_); refine zx 2 #[.bool a0_0, .int .u64 a0_1, .int .u64 a0_2, .int .i64 a0_3] 33 ?_; intro gb724 hg w5 hbox hb; have BK724 := Aside0.mk (hbox); have GW724 := zG HB hg; have GE724 := zG HB hg; replace HB := Aside0.mk (below_step (zB HB) hb); clear hb hbox hg) | ((with_reducible refine gate_dst (N := 3) rfl ?_); refine zx 3 #[.bool a1_0, .int .u64 a1_1, .int .u64 a1_2] 31 ?_; intro gb725 hg w6 hbox hb; have BK725 := Aside0.mk (hbox); have GW725 := zG HB hg; have GE725 := zG HB hg; replace HB := Aside0.mk (below_step (zB HB) hb); have NB724_725 := Aside0.mk ((by rw [hg]; exact Nat.ne_of_lt (blk_lt (g := gb724) (o := .cells #[.bool a0_0, .int .u64 a0_1, .int .u64 a0_2, .int .i64 a0_3] 33 (0, 0)) (zK BK724)) : gb724 ≠ gb725)); have NB725_724 := Aside0.mk ((by rw [hg]; exact Nat.ne_of_gt (blk_lt (g := gb724) (o := .cells #[.bool a0_0, .int .u64 a0_1, .int .u64 a0_2, .int .i64 a0_3] 33 (0, 0)) (zK BK724)) : gb725 ≠ gb724)); replace BK724 := zkb BK724 hb; clear hb hbox hg))
   replace BK724 := Aside0.mk (blk_drew BK724.out); replace BK725 := Aside0.mk (blk_drew BK725.out); replace HB := Aside0.mk (below_drew1 HB.out)
   refine start_ (n := 16) (S := fun w' => w'.cell? ⟨gb724, 0, none⟩ = some (.bool a0_0) ∧ w'.cell? ⟨gb724, 1, none⟩ = some (.int .u64 a0_1) ∧ w'.cell? ⟨gb724, 2, none⟩ = some (.int .u64 a0_2) ∧ w'.cell? ⟨gb724, 3, none⟩ = some (.int .i64 a0_3) ∧ w'.cell? ⟨gb725, 0, none⟩ = some (.bool a1_0) ∧ w'.cell? ⟨gb725, 1, none⟩ = some (.int .u64 a1_1) ∧ w'.cell? ⟨gb725, 2, none⟩ = some (.int .u64 a1_2)) (ds := []) #[false, false, false, false, false, false, false, false, false, false, false, false, false, false, false, false] (by kernel_rfl) rfl rfl ⟨zc BK724 0, zc BK724 1, zc BK724 2, zc BK724 3, zc BK725 0, zc BK725 1, zc BK725 2⟩ (fun hHeld => ?_); refine with_tabW r06_Contains.tab1 r06_Contains.bits1 (fun HT_ HW_ => ?_)
   generalize w6.drew = w7 at BK724 BK725 HB hHeld ⊢
   refine zp 0 5 HT_ ?_; refine zp 1 6 HT_ ?_; refine zp 3 8 HT_ ?_; refine zt 2 7 HT_ HW_ hHeld ?_; refine zt 4 9 HT_ HW_ hHeld ?_; refine zp 5 10 HT_ ?_; refine zp 6 11 HT_ ?_; refine zp 8 13 HT_ ?_; refine zp 11 16 HT_ ?_; refine zt 7 12 HT_ HW_ hHeld ?_; refine zt 9 14 HT_ HW_ hHeld ?_; refine zt 12 17 HT_ HW_ hHeld ?_; refine zo 10 15 HT_ (fun K hK => ?_)
   refine zg Tryz.func54 #[.agg #[.bool a1_0, .int .u64 a1_1, .int .u64 a1_2], .int .i64 a0_3, .bool false] ?_
   with_reducible refine (r06_with.calls k a1_0 a1_1 a1_2 a0_3 false t726 t727 t728 _ A4.out).mono ?_
   rintro e w8 ⟨rfl, hb⟩
   refine ⟨_, rfl, ?_⟩
   replace BK724 := zkb BK724 hb; replace BK725 := zkb BK725 hb; replace HB := Aside0.mk (below_step (zB HB) hb)
   try clear hb
   refine hK.out _ _ ⟨zc BK724 0, zc BK724 1, zc BK724 2, zc BK724 3, zc BK725 0, zc BK725 1, zc BK725 2⟩ (fun hHeld => ?_)
   clear hK K
   refine zn 15 ?_; refine zp 13 18 HT_ ?_; refine zp 14 19 HT_ ?_; refine zp 15 4 HT_ ?_; refine zd HT_ ?_
   try go_wp2
   go_ret
   exact ⟨zr, zB HB⟩
 rw [if_neg c3] at H
 have c3b0 : (a0_0 == a1_0) = false := by simpa using c3
 (try (have c3b1 : decide (a0_0 = a1_0) = false := by first | (simpa using c3) | exact decide_eq_true (Decidable.not_not.1 (fun hn => c3 (bne_iff_ne.2 hn))) | exact beq_iff_eq.2 (Decidable.not_not.1 (fun hn => c3 (bne_iff_ne.2 hn))) | exact decide_eq_false (bne_iff_ne.1 c3) | exact beq_eq_false_iff_ne.2 (bne_iff_ne.1 c3) | exact bne_iff_ne.1 c3))
 (try (have c3b2 : (a0_0 == a1_0) = false := by first | (simpa using c3) | exact decide_eq_true (Decidable.not_not.1 (fun hn => c3 (bne_iff_ne.2 hn))) | exact beq_iff_eq.2 (Decidable.not_not.1 (fun hn => c3 (bne_iff_ne.2 hn))) | exact decide_eq_false (bne_iff_ne.1 c3) | exact beq_eq_false_iff_ne.2 (bne_iff_ne.1 c3) | exact bne_iff_ne.1 c3))
 (try (have c3b3 : ¬ (a0_0 = a1_0) := by first | (simpa using c3) | exact decide_eq_true (Decidable.not_not.1 (fun hn => c3 (bne_iff_ne.2 hn))) | exact beq_iff_eq.2 (Decidable.not_not.1 (fun hn => c3 (bne_iff_ne.2 hn))) | exact decide_eq_false (bne_iff_ne.1 c3) | exact beq_eq_false_iff_ne.2 (bne_iff_ne.1 c3) | exact bne_iff_ne.1 c3))
 clear c3
 obtain rfl := Option.some.inj H
 go_enter Tryz.func29, Tryz.ntmps29
 try go_wp2_with (first | ((with_reducible refine gate_dst (N := 2) rfl ?_); refine zx 2 #[.bool a0_0, .int .u64 a0_1, .int .u64 a0_2, .int .i64 a0_3] 33 ?_; intro gb724 hg w9 hbox hb; have BK724 := Aside0.mk (hbox); have GW724 := zG HB hg; have GE724 := zG HB hg; replace HB := Aside0.mk (below_step (zB HB) hb); clear hb hbox hg) | ((with_reducible refine gate_dst (N := 3) rfl ?_); refine zx 3 #[.bool a1_0, .int .u64 a1_1, .int .u64 a1_2] 31 ?_; intro gb725 hg w10 hbox hb; have BK725 := Aside0.mk (hbox); have GW725 := zG HB hg; have GE725 := zG HB hg; replace HB := Aside0.mk (below_step (zB HB) hb); have NB724_725 := Aside0.mk ((by rw [hg]; exact Nat.ne_of_lt (blk_lt (g := gb724) (o := .cells #[.bool a0_0, .int .u64 a0_1, .int .u64 a0_2, .int .i64 a0_3] 33 (0, 0)) (zK BK724)) : gb724 ≠ gb725)); have NB725_724 := Aside0.mk ((by rw [hg]; exact Nat.ne_of_gt (blk_lt (g := gb724) (o := .cells #[.bool a0_0, .int .u64 a0_1, .int .u64 a0_2, .int .i64 a0_3] 33 (0, 0)) (zK BK724)) : gb725 ≠ gb724)); replace BK724 := zkb BK724 hb; clear hb hbox hg))
 replace BK724 := Aside0.mk (blk_drew BK724.out); replace BK725 := Aside0.mk (blk_drew BK725.out); replace HB := Aside0.mk (below_drew1 HB.out)
 refine start_ (n := 16) (S := fun w' => w'.cell? ⟨gb724, 0, none⟩ = some (.bool a0_0) ∧ w'.cell? ⟨gb724, 1, none⟩ = some (.int .u64 a0_1) ∧ w'.cell? ⟨gb724, 2, none⟩ = some (.int .u64 a0_2) ∧ w'.cell? ⟨gb724, 3, none⟩ = some (.int .i64 a0_3) ∧ w'.cell? ⟨gb725, 0, none⟩ = some (.bool a1_0) ∧ w'.cell? ⟨gb725, 1, none⟩ = some (.int .u64 a1_1) ∧ w'.cell? ⟨gb725, 2, none⟩ = some (.int .u64 a1_2)) (ds := []) #[false, false, false, false, false, false, false, false, false, false, false, false, false, false, false, false] (by kernel_rfl) rfl rfl ⟨zc BK724 0, zc BK724 1, zc BK724 2, zc BK724 3, zc BK725 0, zc BK725 1, zc BK725 2⟩ (fun hHeld => ?_); refine with_tabW r06_Contains.tab1 r06_Contains.bits1 (fun HT_ HW_ => ?_)
 generalize w10.drew = w11 at BK724 BK725 HB hHeld ⊢
 refine zp 0 5 HT_ ?_; refine zp 1 6 HT_ ?_; refine zp 3 8 HT_ ?_; refine zt 2 7 HT_ HW_ hHeld ?_; refine zt 4 9 HT_ HW_ hHeld ?_; refine zp 5 10 HT_ ?_; refine zp 6 11 HT_ ?_; refine zu 7 12 HT_ ?_; refine zu 8 13 HT_ ?_; refine zu 9 14 HT_ ?_; refine zu 10 15 HT_ ?_; refine zu 11 16 HT_ ?_; refine zu 12 17 HT_ ?_; refine zu 13 18 HT_ ?_; refine zp 14 19 HT_ ?_; refine zp 15 4 HT_ ?_; refine zd HT_ ?_
 try go_wp2
 go_ret
 exact ⟨zr, zB HB⟩
end Go.Proofs.YtnphnhkinjppjaaGreatDoor.Q
end

section
namespace Go.Proofs.YtnphnhkinjppjaaGreatDoor.Q
open Go.RowKit Go.Proofs.YtnphnhkinjppjaaGreatDoorW.PrintWords Go.Proofs.YtnphnhkinjppjaaGreatDoorW.PrintLast Go.Proofs.YtnphnhkinjppjaaGreatDoorW.PrintMore
attribute [local go_sem] max2_int min2_int max_two min_two max_three min_three max_four min_four
attribute [local go_sem high] eqA31
def r06_ValidPrefix.f (k : Nat) (a0_0 : Bool) (a0_1 : Int) (a0_2 : Int) (a0_3 : Int) : Option (Bool) := (r06_Valid.f a0_0 a0_1 a0_2).bind fun t302 => (if t302 = true then (if a0_3 ≥ 0 then ((r06_Width.f a0_0 a0_1 a0_2).bind fun t303 => (if a0_3 ≤ t303 then ((r06_with.f k a0_0 a0_1 a0_2 a0_3 false).bind fun bt304 => (some (bt304.1 == a0_0 && (bt304.2.1 == a0_1 && (bt304.2.2 == a0_2))))) else (some false))) else (some false)) else (some false))
theorem r06_ValidPrefix.mono : ∀ a0 a1 a2 a3 k, LeO (r06_ValidPrefix.f k a0 a1 a2 a3) (r06_ValidPrefix.f (k + 1) a0 a1 a2 a3) := by
  intro a0 a1 a2 a3 k
  unfold r06_ValidPrefix.f
  repeat' first
      | (with_reducible exact r06_with.mono _ _ _ _ _ _)
      | (with_reducible exact LeO.refl _)
      | (with_reducible exact LeO.none _)
      | (with_reducible refine LeO.ite ?_ ?_)
      | (with_reducible refine LeO.bind ?_ (fun _ => ?_))
end Go.Proofs.YtnphnhkinjppjaaGreatDoor.Q
end

section
namespace Go.Proofs.YtnphnhkinjppjaaGreatDoor.Q
open Go.RowKit Go.Proofs.YtnphnhkinjppjaaGreatDoorW.PrintWords Go.Proofs.YtnphnhkinjppjaaGreatDoorW.PrintLast Go.Proofs.YtnphnhkinjppjaaGreatDoorW.PrintMore
abbrev Ad := S31
abbrev Px := S33
def AW (a : Ad) : Prop := 0 ≤ a.f1 ∧ a.f1 < 18446744073709551616 ∧ 0 ≤ a.f2 ∧ a.f2 < 18446744073709551616
def av (a : Ad) : Int := (if a.f0 = true then 680564733841876926926749214863536422912 else 0) + a.f1 * 18446744073709551616 + a.f2
def AF (a : Ad) : Prop := AW a ∧ (a.f0 = true ∨ (a.f1 = 0 ∧ a.f2 ≤ 4294967295))
theorem wf_u64 {n : Int} (h : (Lit.int .u64 n).wf = true) : 0 ≤ n ∧ n < 18446744073709551616 := by
  simp only [Lit.wf, Bool.and_eq_true, decide_eq_true_eq] at h
  have e1 : IntKind.u64.min = 0 := by decide
  have e2 : IntKind.u64.max = 18446744073709551615 := by decide
  rw [e1, e2] at h
  omega
theorem aw_of {a : Ad} (h : q31 a) : AW a := by
  obtain ⟨_, h1, h2⟩ := h
  have := wf_u64 h1
  have := wf_u64 h2
  exact ⟨by omega, by omega, by omega, by omega⟩
def adB (a : Ad) : Bool := a.f0 || (decide (a.f1 = 0) && decide (a.f2 ≤ 4294967295))
theorem fine_eq (a : Ad) : address_Valid.f a.f0 a.f1 a.f2 = some (adB a) := by
  unfold address_Valid.f adB
  cases a.f0
  · by_cases h : a.f1 = 0 <;> simp [h]
  · simp
theorem rfine_eq (a : Ad) : r06_Valid.f a.f0 a.f1 a.f2 = some (adB a) := by
  unfold r06_Valid.f adB
  cases a.f0
  · by_cases h : a.f1 = 0
    · simp [h]; omega
    · simp [h]
  · simp
theorem fine_iff {a : Ad} (ha : AW a) : adB a = true ↔ AF a := by
  unfold adB AF
  simp only [Bool.or_eq_true, Bool.and_eq_true, decide_eq_true_eq]
  exact ⟨fun h => ⟨ha, h⟩, fun h => h.2⟩
theorem AF.num {a : Ad} (h : AF a) : (a.f0 = false ∧ 0 ≤ av a ∧ av a ≤ 4294967295) ∨ (a.f0 = true ∧ 680564733841876926926749214863536422912 ≤ av a ∧ av a < 1020847100762815390390123822295304634368) := by
  obtain ⟨⟨h1, h2, h3, h4⟩, h5⟩ := h
  obtain ⟨a0, a1, a2⟩ := a
  unfold av
  cases a0 <;> simp at h1 h2 h3 h4 h5 ⊢ <;> omega
theorem u64_id {n : Int} (h0 : 0 ≤ n) (h1 : n < 18446744073709551616) : IntKind.u64.wrap n = n := IntWalk.u64_in n ⟨h0, by omega⟩
instance decAd : DecidableEq Ad := fun a b => decidable_of_iff (a.f0 = b.f0 ∧ a.f1 = b.f1 ∧ a.f2 = b.f2) ⟨fun h => by cases a; cases b; simp at h; simp [h], fun h => by rw [h]; exact ⟨rfl, rfl, rfl⟩⟩
theorem ends_eq (x y : Ad) : (x.f0 == y.f0 && (x.f1 == y.f1 && x.f2 == y.f2)) = decide (x = y) := by
  obtain ⟨x0, x1, x2⟩ := x
  obtain ⟨y0, y1, y2⟩ := y
  rw [Bool.eq_iff_iff]
  simp only [Bool.and_eq_true, beq_iff_eq, decide_eq_true_eq, Ad, S31.mk.injEq]
theorem wid {x : Int} (h0 : -9223372036854775808 ≤ x) (h1 : x ≤ 9223372036854775807) : wrap64 x = x := by unfold wrap64; omega
theorem xor_one (q : Nat) : q ^^^ 1 = if q % 2 = 1 then q - 1 else q + 1 := by
  have a1 : (q ^^^ 1) / 2 = q / 2 := by
    have := @Nat.xor_div_two_pow q 1 1
    simpa using this
  have a2 : (q ^^^ 1) % 2 = 1 - q % 2 := by
    have := @Nat.xor_mod_two_pow q 1 1
    rw [show 2 ^ 1 = 2 from rfl] at this
    rw [this]
    rcases Nat.mod_two_eq_zero_or_one q with h | h <;> rw [h] <;> rfl
  by_cases h : q % 2 = 1
  · rw [if_pos h]; omega
  · rw [if_neg h]; omega
theorem xor_bit (n j : Nat) : n ^^^ 2 ^ j = if (n / 2 ^ j) % 2 = 1 then n - 2 ^ j else n + 2 ^ j := by
  have h1 : (n ^^^ 2 ^ j) % 2 ^ j = n % 2 ^ j := by rw [Nat.xor_mod_two_pow]; simp
  have h2 : (n ^^^ 2 ^ j) / 2 ^ j = (n / 2 ^ j) ^^^ 1 := by rw [Nat.xor_div_two_pow, Nat.div_self (Nat.pow_pos (by decide))]
  have d1 := Nat.div_add_mod (n ^^^ 2 ^ j) (2 ^ j)
  have d2 := Nat.div_add_mod n (2 ^ j)
  rw [h1, h2, xor_one] at d1
  by_cases h : (n / 2 ^ j) % 2 = 1
  · rw [if_pos h] at d1 ⊢
    have g : 0 < n / 2 ^ j := Nat.pos_of_ne_zero (fun e => by rw [e] at h; exact absurd h (by decide))
    generalize n / 2 ^ j = q at *
    generalize 2 ^ j = p at *
    rw [Nat.mul_sub, Nat.mul_one] at d1
    have : p ≤ p * q := Nat.le_mul_of_pos_right _ g
    omega
  · rw [if_neg h] at d1 ⊢
    rw [Nat.mul_add, Nat.mul_one] at d1
    omega
def setN (n k : Nat) (b : Bool) : Nat := n - n % 2 ^ k + (if b then 2 ^ k - 1 else 0)
def flipN (n j : Nat) (b : Bool) : Nat := if ((n / 2 ^ j) % 2 == 1) = b then n else n ^^^ 2 ^ j
theorem setN_flip (n j : Nat) (b : Bool) : setN (flipN n j b) j b = setN n (j + 1) b := by
  have hp : 0 < 2 ^ j := Nat.pow_pos (by decide)
  have d2 := Nat.div_add_mod n (2 ^ j)
  have hl := Nat.mod_lt n hp
  have e1 : n % 2 ^ (j + 1) = n % 2 ^ j + 2 ^ j * ((n / 2 ^ j) % 2) := by rw [Nat.pow_succ, Nat.mod_mul]
  have hle : n % 2 ^ (j + 1) ≤ n := Nat.mod_le _ _
  have f1 : ∀ q : Nat, (2 ^ j * q + n % 2 ^ j) % 2 ^ j = n % 2 ^ j := fun q => by rw [Nat.mul_add_mod]; exact Nat.mod_mod _ _
  unfold setN flipN
  rw [xor_bit, e1, Nat.pow_succ]
  have f2 := f1 (n / 2 ^ j - 1)
  have f3 := f1 (n / 2 ^ j + 1)
  generalize hq : n / 2 ^ j = q at *
  generalize hr : n % 2 ^ j = r at *
  generalize 2 ^ j = p at *
  rcases Nat.mod_two_eq_zero_or_one q with h | h
  · rw [h]
    cases b
    · simp [hr]
    · simp only [show ((0 : Nat) == 1) = false from rfl, Bool.false_eq_true, if_false, if_true, show ¬ (0 = 1) from by omega]
      rw [Nat.mul_add, Nat.mul_one] at f3
      rw [show p * q + p + r = n + p from by omega] at f3
      rw [f3]
      omega
  · rw [h]
    have hq1 : 0 < q := by omega
    have hpq : p ≤ p * q := Nat.le_mul_of_pos_right _ hq1
    cases b
    · simp only [show ((1 : Nat) == 1) = true from rfl, if_true, Bool.false_eq_true, if_false, reduceCtorEq]
      rw [Nat.mul_sub, Nat.mul_one] at f2
      rw [show p * q - p + r = n - p from by omega] at f2
      rw [f2]
      omega
    · simp only [show ((1 : Nat) == 1) = true from rfl, if_true]
      rw [hr]
      omega
theorem ofInt_toNat (x : Nat) (h : x < 18446744073709551616) : (BitVec.ofInt 64 (x : Int)).toNat = x := by
  rw [BitVec.toNat_ofInt]
  simp
  omega
theorem pow_le64 (n : Nat) (hn : n ≤ 64) : 2 ^ n ≤ 18446744073709551616 := Nat.le_trans (Nat.pow_le_pow_right (by decide) hn) (by decide)
theorem bits_and (x n : Nat) (hx : x < 18446744073709551616) (hn : n ≤ 64) : Go.bits .and .u64 (x : Int) ((2 ^ n - 1 : Nat) : Int) = ((x % 2 ^ n : Nat) : Int) := by
  have hp := pow_le64 n hn
  have hpos : 0 < 2 ^ n := Nat.pow_pos (by decide)
  unfold Go.bits
  show IntKind.u64.wrap ((((BitVec.ofInt 64 (x : Int)) &&& (BitVec.ofInt 64 ((2 ^ n - 1 : Nat) : Int))).toNat : Nat) : Int) = _
  rw [BitVec.toNat_and, ofInt_toNat x hx, ofInt_toNat _ (by omega), Nat.and_two_pow_sub_one_eq_mod]
  have := Nat.mod_le x (2 ^ n)
  exact u64_id (by omega) (by omega)
theorem shl_one (n : Nat) (hn : n < 64) : IntKind.u64.wrap ((shl .u64 1 (n : Int)) - 1) = ((2 ^ n - 1 : Nat) : Int) := by
  have hp : 2 ^ n ≤ 9223372036854775808 := Nat.le_trans (Nat.pow_le_pow_right (by decide) (show n ≤ 63 by omega)) (by decide)
  have hpos : 0 < 2 ^ n := Nat.pow_pos (by decide)
  have e : shl .u64 1 (n : Int) = ((2 ^ n : Nat) : Int) := by
    unfold shl
    rw [show min (n : Int).toNat IntKind.u64.bits = n from by show min n 64 = n; omega]
    rw [Int.one_mul, show (2 : Int) ^ n = ((2 ^ n : Nat) : Int) from by simp]
    exact u64_id (by omega) (by omega)
  rw [e]
  rw [u64_id (by omega) (by omega)]
  omega
def hiM (k : Nat) : Int := ((2 ^ (k - 64) - 1 : Nat) : Int)
def loM (k : Nat) : Int := ((2 ^ (min k 64) - 1 : Nat) : Int)
def szA (f : Bool) : Nat := if f then 128 else 32
theorem low_eq (n : Int) (h : n ≤ 1000) : address_low.f n = some (((2 ^ (min n.toNat 64) - 1 : Nat)) : Int) := by
  unfold address_low.f
  by_cases h1 : n ≥ 64
  · rw [if_pos h1, show min n.toNat 64 = 64 from by omega]
    rfl
  · rw [if_neg h1]
    by_cases h2 : n ≤ 0
    · rw [if_pos h2, show min n.toNat 64 = 0 from by omega]
      rfl
    · rw [if_neg h2, if_pos (by omega), show min n.toNat 64 = n.toNat from by omega]
      have := shl_one n.toNat (by omega)
      rw [show ((n.toNat : Nat) : Int) = n from by omega] at this
      rw [this]
theorem size_eq (a : Ad) : address_size.f a.f0 a.f1 a.f2 = some ((szA a.f0 : Nat) : Int) := by
  unfold address_size.f szA
  cases a.f0 <;> rfl
theorem mask_eq (a : Ad) (b : Int) (k : Nat) (hk : (k : Int) = (szA a.f0 : Int) - b) (h0 : 0 ≤ b) (h1 : b ≤ szA a.f0) : address_mask.f a.f0 a.f1 a.f2 b = some (hiM k, loM k) := by
  have hs : szA a.f0 ≤ 128 := by unfold szA; split <;> omega
  unfold address_mask.f
  rw [size_eq]
  simp only [Option.bind_some]
  rw [wid (x := (szA a.f0 : Int) - b) (by omega) (by omega), ← hk, wid (x := (k : Int) - 64) (by omega) (by omega), low_eq _ (by omega), low_eq _ (by omega)]
  simp only [Option.bind_some]
  unfold hiM loM
  rw [show min ((k : Int) - 64).toNat 64 = k - 64 from by omega, show min ((k : Nat) : Int).toNat 64 = min k 64 from by omega]
theorem setN_le {n k m : Nat} (b : Bool) (hn : n < 2 ^ m) (hk : k ≤ m) : setN n k b < 2 ^ m := by
  have hp : 0 < 2 ^ k := Nat.pow_pos (by decide)
  have d2 := Nat.div_add_mod n (2 ^ k)
  have hl := Nat.mod_lt n hp
  have e : 2 ^ m = 2 ^ k * 2 ^ (m - k) := by rw [← Nat.pow_add, show k + (m - k) = m from by omega]
  have h1 : n / 2 ^ k < 2 ^ (m - k) := Nat.div_lt_of_lt_mul (by rw [← e]; exact hn)
  have h2 : 2 ^ k * (n / 2 ^ k + 1) ≤ 2 ^ k * 2 ^ (m - k) := Nat.mul_le_mul_left _ h1
  rw [Nat.mul_add, Nat.mul_one, ← e] at h2
  unfold setN
  split <;> omega
theorem andNot_low (X M : BitVec 64) (n : Nat) (hn : n ≤ 64) (hM : M.toNat = 2 ^ n - 1) : (X &&& ~~~M).toNat = X.toNat - X.toNat % 2 ^ n := by
  have hpos : 0 < 2 ^ n := Nat.pow_pos (by decide)
  have hp := pow_le64 n hn
  have e : 18446744073709551616 = 2 ^ n * 2 ^ (64 - n) := by rw [← Nat.pow_add, show n + (64 - n) = 64 from by omega]
  have hq : 0 < 2 ^ (64 - n) := Nat.pow_pos (by decide)
  have hX := X.isLt
  rw [BitVec.toNat_and, BitVec.toNat_not, hM]
  have hC : 2 ^ 64 - 1 - (2 ^ n - 1) = 2 ^ n * (2 ^ (64 - n) - 1) := by
    rw [Nat.mul_sub, ← e, Nat.mul_one]
    omega
  rw [hC]
  generalize X.toNat = x at *
  have h1 : (x &&& (2 ^ n * (2 ^ (64 - n) - 1))) / 2 ^ n = x / 2 ^ n := by
    rw [Nat.and_div_two_pow, Nat.mul_div_cancel_left _ hpos, Nat.and_two_pow_sub_one_eq_mod]
    exact Nat.mod_eq_of_lt (Nat.div_lt_of_lt_mul (by rw [← e]; exact hX))
  have h2 : (x &&& (2 ^ n * (2 ^ (64 - n) - 1))) % 2 ^ n = 0 := by
    rw [Nat.and_mod_two_pow, Nat.mul_mod_right]
    simp
  have d1 := Nat.div_add_mod (x &&& (2 ^ n * (2 ^ (64 - n) - 1))) (2 ^ n)
  have d2 := Nat.div_add_mod x (2 ^ n)
  rw [h1, h2] at d1
  omega
theorem bits_andNot (x n : Nat) (hx : x < 18446744073709551616) (hn : n ≤ 64) : Go.bits .andNot .u64 (x : Int) ((2 ^ n - 1 : Nat) : Int) = ((setN x n false : Nat) : Int) := by
  have hp := pow_le64 n hn
  have hpos : 0 < 2 ^ n := Nat.pow_pos (by decide)
  unfold Go.bits
  show IntKind.u64.wrap ((((BitVec.ofInt 64 (x : Int)) &&& ~~~(BitVec.ofInt 64 ((2 ^ n - 1 : Nat) : Int))).toNat : Nat) : Int) = _
  rw [andNot_low _ _ n hn (ofInt_toNat _ (by omega)), ofInt_toNat x hx]
  unfold setN
  simp only [Bool.false_eq_true, if_false, Nat.add_zero]
  exact u64_id (by omega) (by omega)
theorem bits_xor (x j : Nat) (hx : x < 18446744073709551616) (hj : j < 64) : Go.bits .xor .u64 (x : Int) ((2 ^ j : Nat) : Int) = ((x ^^^ 2 ^ j : Nat) : Int) := by
  have hp : 2 ^ j < 18446744073709551616 := Nat.lt_of_le_of_lt (Nat.pow_le_pow_right (by decide) (show j ≤ 63 by omega)) (by decide)
  have hl : (x ^^^ 2 ^ j) < 2 ^ 64 := Nat.xor_lt_two_pow hx hp
  unfold Go.bits
  show IntKind.u64.wrap ((((BitVec.ofInt 64 (x : Int)) ^^^ (BitVec.ofInt 64 ((2 ^ j : Nat) : Int))).toNat : Nat) : Int) = _
  rw [BitVec.toNat_xor, ofInt_toNat x hx, ofInt_toNat _ hp]
  exact u64_id (by omega) (by omega)
theorem shl_pow (j : Nat) (hj : j < 64) : shl .u64 1 (j : Int) = ((2 ^ j : Nat) : Int) := by
  have hp : 2 ^ j < 18446744073709551616 := Nat.lt_of_le_of_lt (Nat.pow_le_pow_right (by decide) (show j ≤ 63 by omega)) (by decide)
  unfold shl
  rw [show min (j : Int).toNat IntKind.u64.bits = j from by show min j 64 = j; omega]
  rw [Int.one_mul, show (2 : Int) ^ j = ((2 ^ j : Nat) : Int) from by simp]
  exact u64_id (Int.natCast_nonneg _) (Int.ofNat_lt.2 hp)
theorem shr_bit (x j : Nat) (hx : x < 18446744073709551616) (hj : j < 64) : (Go.bits .and .u64 (shr .u64 (x : Int) (j : Int)) 1 == 1) = ((x / 2 ^ j) % 2 == 1) := by
  unfold shr
  rw [show min (j : Int).toNat IntKind.u64.bits = j from by show min j 64 = j; omega]
  rw [show (x : Int) / 2 ^ j = ((x / 2 ^ j : Nat) : Int) from by simp]
  have h := bits_and (x / 2 ^ j) 1 (Nat.lt_of_le_of_lt (Nat.div_le_self _ _) hx) (by decide)
  rw [show ((2 ^ 1 - 1 : Nat) : Int) = 1 from rfl] at h
  rw [h, show (2 : Nat) ^ 1 = 2 from rfl]
  rw [Bool.eq_iff_iff, beq_iff_eq, beq_iff_eq]
  omega
def nv (a : Ad) : Nat := a.f1.toNat * 18446744073709551616 + a.f2.toNat
def mkN (f : Bool) (n : Nat) : Ad := ⟨f, ((n / 18446744073709551616 : Nat) : Int), ((n % 18446744073709551616 : Nat) : Int)⟩
theorem mkN_nv {a : Ad} (h : AW a) : mkN a.f0 (nv a) = a := by
  obtain ⟨h1, h2, h3, h4⟩ := h
  obtain ⟨a0, a1, a2⟩ := a
  simp only at h1 h2 h3 h4
  unfold mkN nv
  simp only [Ad, S31.mk.injEq, true_and]
  exact ⟨by omega, by omega⟩
theorem nv_mkN (f : Bool) (n : Nat) : nv (mkN f n) = n := by unfold nv mkN; simp only [Int.toNat_natCast]; omega
theorem mkN_f0 (f : Bool) (n : Nat) : (mkN f n).f0 = f := rfl
theorem mkN_aw (f : Bool) {n : Nat} (h : n < 340282366920938463463374607431768211456) : AW (mkN f n) := by
  unfold AW mkN
  exact ⟨by simp; omega, by simp; omega, by simp; omega, by simp; omega⟩
theorem szA_cases (f : Bool) : szA f = 128 ∧ f = true ∨ szA f = 32 ∧ f = false := by cases f <;> simp [szA]
theorem AF.nvlt {a : Ad} (h : AF a) : nv a < 2 ^ szA a.f0 := by
  obtain ⟨⟨h1, h2, h3, h4⟩, h5⟩ := h
  unfold nv
  rcases szA_cases a.f0 with ⟨e, e2⟩ | ⟨e, e2⟩ <;> rw [e]
  · rw [show (2 : Nat) ^ 128 = 340282366920938463463374607431768211456 from by decide]; omega
  · rw [show (2 : Nat) ^ 32 = 4294967296 from by decide]
    rcases h5 with h5 | h5
    · rw [e2] at h5; cases h5
    · omega
theorem mkN_af {f : Bool} {n : Nat} (h : n < 2 ^ szA f) : AF (mkN f n) := by
  rcases szA_cases f with ⟨e, e2⟩ | ⟨e, e2⟩ <;> rw [e] at h
  · rw [show (2 : Nat) ^ 128 = 340282366920938463463374607431768211456 from by decide] at h
    exact ⟨mkN_aw f h, .inl e2⟩
  · rw [show (2 : Nat) ^ 32 = 4294967296 from by decide] at h
    exact ⟨mkN_aw f (by omega), .inr ⟨by unfold mkN; simp; omega, by unfold mkN; simp; omega⟩⟩
def subA (a : Ad) (k : Nat) (b : Bool) : Ad := mkN a.f0 (setN (nv a) k b)
theorem subA_f0 (a : Ad) (k : Nat) (b : Bool) : (subA a k b).f0 = a.f0 := rfl
theorem setN_parts (x y k : Nat) (hy : y < 18446744073709551616) (hk : k ≤ 128) (b : Bool) : setN (x * 18446744073709551616 + y) k b / 18446744073709551616 = setN x (k - 64) b ∧ setN (x * 18446744073709551616 + y) k b % 18446744073709551616 = setN y (min k 64) b := by
  by_cases h : k ≤ 64
  · rw [show k - 64 = 0 from by omega, show min k 64 = k from by omega]
    have e : 18446744073709551616 = 2 ^ k * 2 ^ (64 - k) := by rw [← Nat.pow_add, show k + (64 - k) = 64 from by omega]
    have hm : (x * 18446744073709551616 + y) % 2 ^ k = y % 2 ^ k := by
      rw [e, show x * (2 ^ k * 2 ^ (64 - k)) + y = 2 ^ k * (x * 2 ^ (64 - k)) + y from by rw [Nat.mul_left_comm], Nat.mul_add_mod]
    have hl := setN_le (m := 64) b hy h
    unfold setN at hl ⊢
    rw [hm]
    have hle := Nat.mod_le y (2 ^ k)
    have e0 : x % 2 ^ 0 = 0 := by rw [Nat.pow_zero]; omega
    rw [e0, Nat.pow_zero]
    generalize y % 2 ^ k = r at *
    generalize 2 ^ k = p at *
    rw [show (2 : Nat) ^ 64 = 18446744073709551616 from by decide] at hl
    cases b
    · simp only [Bool.false_eq_true, if_false] at hl ⊢
      omega
    · simp only [if_true] at hl ⊢
      omega
  · rw [show min k 64 = 64 from by omega]
    have e : 2 ^ k = 18446744073709551616 * 2 ^ (k - 64) := by rw [show 18446744073709551616 = 2 ^ 64 from by decide, ← Nat.pow_add, show 64 + (k - 64) = k from by omega]
    have hm : (x * 18446744073709551616 + y) % 2 ^ k = y + 18446744073709551616 * (x % 2 ^ (k - 64)) := by
      rw [e, Nat.mod_mul]
      rw [show (x * 18446744073709551616 + y) % 18446744073709551616 = y from by omega, show (x * 18446744073709551616 + y) / 18446744073709551616 = x from by omega]
    have hp : 0 < 2 ^ (k - 64) := Nat.pow_pos (by decide)
    unfold setN
    rw [hm, e, show y % 2 ^ 64 = y from Nat.mod_eq_of_lt hy]
    have hle := Nat.mod_le x (2 ^ (k - 64))
    generalize x % 2 ^ (k - 64) = r at *
    generalize 2 ^ (k - 64) = p at *
    rw [show (2 : Nat) ^ 64 = 18446744073709551616 from by decide]
    cases b
    · simp only [Bool.false_eq_true, if_false]
      omega
    · simp only [if_true]
      omega
theorem subA_eq {a : Ad} (h : AW a) {k : Nat} (hk : k ≤ 128) (b : Bool) : subA a k b = ⟨a.f0, ((setN a.f1.toNat (k - 64) b : Nat) : Int), ((setN a.f2.toNat (min k 64) b : Nat) : Int)⟩ := by
  obtain ⟨h1, h2, h3, h4⟩ := h
  have := setN_parts a.f1.toNat a.f2.toNat k (by omega) hk b
  unfold subA mkN nv
  rw [this.1, this.2]
theorem maskOff {a : Ad} (h : AW a) {k : Nat} (hk : k ≤ 128) : Go.bits .andNot .u64 a.f1 (hiM k) = (subA a k false).f1 ∧ Go.bits .andNot .u64 a.f2 (loM k) = (subA a k false).f2 := by
  rw [subA_eq h hk]
  obtain ⟨h1, h2, h3, h4⟩ := h
  have e1 := bits_andNot a.f1.toNat (k - 64) (by omega) (by omega)
  have e2 := bits_andNot a.f2.toNat (min k 64) (by omega) (by omega)
  rw [show ((a.f1.toNat : Nat) : Int) = a.f1 from by omega] at e1
  rw [show ((a.f2.toNat : Nat) : Int) = a.f2 from by omega] at e2
  exact ⟨e1, e2⟩
theorem width_eq (a : Ad) : r06_Width.f a.f0 a.f1 a.f2 = some ((szA a.f0 : Nat) : Int) := by
  unfold r06_Width.f szA
  cases a.f0 <;> rfl
theorem szA_le (f : Bool) : szA f ≤ 128 := by unfold szA; split <;> omega
theorem u64_wr {x : Int} (h0 : 0 ≤ x) (h1 : x ≤ 1000) : IntKind.u64.wrap (wrap64 x) = x := by rw [wid (by omega) (by omega)]; exact u64_id h0 (by omega)
theorem nv_bit_hi (x y j : Nat) (hy : y < 18446744073709551616) : (x * 18446744073709551616 + y) / 2 ^ (64 + j) = x / 2 ^ j := by
  rw [Nat.pow_add, ← Nat.div_div_eq_div_mul, show (2 : Nat) ^ 64 = 18446744073709551616 from by decide, show (x * 18446744073709551616 + y) / 18446744073709551616 = x from by omega]
theorem nv_bit_lo (x y j : Nat) (hj : j < 64) (hy : y < 18446744073709551616) : ((x * 18446744073709551616 + y) / 2 ^ j) % 2 = (y / 2 ^ j) % 2 := by
  have e : 18446744073709551616 = 2 ^ j * (2 * 2 ^ (63 - j)) := by rw [show 2 * 2 ^ (63 - j) = 2 ^ (64 - j) from by rw [show 64 - j = (63 - j) + 1 from by omega, Nat.pow_succ, Nat.mul_comm], ← Nat.pow_add, show j + (64 - j) = 64 from by omega]
  rw [e, show x * (2 ^ j * (2 * 2 ^ (63 - j))) + y = y + 2 ^ j * (2 * (x * 2 ^ (63 - j))) from by rw [Nat.add_comm, Nat.mul_left_comm, Nat.mul_left_comm x 2], Nat.add_mul_div_left _ _ (Nat.pow_pos (by decide)), Nat.add_mul_mod_self_left]
theorem bit_eq {a : Ad} (h : AF a) (r i : Nat) (hr : i + (r + 1) = szA a.f0) : r06_Bit.f a.f0 a.f1 a.f2 (i : Int) = some ((nv a / 2 ^ r) % 2 == 1) := by
  obtain ⟨⟨h1, h2, h3, h4⟩, h5⟩ := h
  obtain ⟨a0, a1, a2⟩ := a
  simp only at h1 h2 h3 h4 h5 hr
  have e1 : ((a1.toNat : Nat) : Int) = a1 := by omega
  have e2 : ((a2.toNat : Nat) : Int) = a2 := by omega
  unfold r06_Bit.f nv
  cases a0
  · have hr : i + (r + 1) = 32 := hr
    simp only [Bool.false_eq_true, if_false]
    rw [u64_wr (by omega) (by omega), if_pos (by omega)]
    have := shr_bit a2.toNat r (by omega) (by omega)
    rw [e2] at this
    rw [show (31 - (i : Int)) = (r : Int) from by omega, this, nv_bit_lo _ _ _ (by omega) (by omega)]
  · have hr : i + (r + 1) = 128 := hr
    simp only [if_true]
    by_cases hi : (i : Int) < 64
    · rw [if_pos hi, u64_wr (by omega) (by omega), if_pos (by omega)]
      obtain ⟨j, rfl⟩ : ∃ j, r = 64 + j := ⟨r - 64, by omega⟩
      have := shr_bit a1.toNat j (by omega) (by omega)
      rw [e1] at this
      rw [show (63 - (i : Int)) = (j : Int) from by omega, this, nv_bit_hi _ _ _ (by omega)]
    · rw [if_neg hi, u64_wr (by omega) (by omega), if_pos (by omega)]
      have := shr_bit a2.toNat r (by omega) (by omega)
      rw [e2] at this
      rw [show (127 - (i : Int)) = (r : Int) from by omega, this, nv_bit_lo _ _ _ (by omega) (by omega)]
theorem xor_hi (x y j : Nat) (hy : y < 18446744073709551616) : (x * 18446744073709551616 + y) ^^^ 2 ^ (64 + j) = (x ^^^ 2 ^ j) * 18446744073709551616 + y := by
  have h1 : ((x * 18446744073709551616 + y) ^^^ 2 ^ (64 + j)) / 2 ^ 64 = x ^^^ 2 ^ j := by
    rw [Nat.xor_div_two_pow, Nat.pow_add, Nat.mul_div_cancel_left _ (Nat.pow_pos (by decide)), show (2 : Nat) ^ 64 = 18446744073709551616 from by decide, show (x * 18446744073709551616 + y) / 18446744073709551616 = x from by omega]
  have h2 : ((x * 18446744073709551616 + y) ^^^ 2 ^ (64 + j)) % 2 ^ 64 = y := by
    rw [Nat.xor_mod_two_pow, Nat.pow_add, Nat.mul_mod_right, Nat.xor_zero, show (2 : Nat) ^ 64 = 18446744073709551616 from by decide]
    omega
  have d1 := Nat.div_add_mod ((x * 18446744073709551616 + y) ^^^ 2 ^ (64 + j)) (2 ^ 64)
  rw [h1, h2] at d1
  rw [← d1, show (2 : Nat) ^ 64 = 18446744073709551616 from by decide, Nat.mul_comm]
theorem xor_lo (x y j : Nat) (hj : j < 64) (hy : y < 18446744073709551616) : (x * 18446744073709551616 + y) ^^^ 2 ^ j = x * 18446744073709551616 + (y ^^^ 2 ^ j) := by
  have hp : 2 ^ j < 2 ^ 64 := Nat.pow_lt_pow_right (by decide) hj
  have h1 : ((x * 18446744073709551616 + y) ^^^ 2 ^ j) / 2 ^ 64 = x := by
    rw [Nat.xor_div_two_pow, Nat.div_eq_of_lt hp, Nat.xor_zero, show (2 : Nat) ^ 64 = 18446744073709551616 from by decide]
    omega
  have h2 : ((x * 18446744073709551616 + y) ^^^ 2 ^ j) % 2 ^ 64 = y ^^^ 2 ^ j := by
    rw [Nat.xor_mod_two_pow, Nat.mod_eq_of_lt hp]
    rw [show (x * 18446744073709551616 + y) % 2 ^ 64 = y from by rw [show (2 : Nat) ^ 64 = 18446744073709551616 from by decide]; omega]
  have d1 := Nat.div_add_mod ((x * 18446744073709551616 + y) ^^^ 2 ^ j) (2 ^ 64)
  rw [h1, h2] at d1
  rw [← d1, show (2 : Nat) ^ 64 = 18446744073709551616 from by decide, Nat.mul_comm]
theorem r_up {i : Nat} (h : i < 1000) : wrap64 ((i : Int) + 1) = ((i + 1 : Nat) : Int) := by rw [wid (by omega) (by omega)]; omega
theorem flip_lo {f : Bool} {x y : Int} {r : Nat} (h1 : 0 ≤ x) (h2 : x < 18446744073709551616) (h3 : 0 ≤ y) (h4 : y < 18446744073709551616) (hr : r < 64) : mkN f ((x.toNat * 18446744073709551616 + y.toNat) ^^^ 2 ^ r) = ⟨f, x, Go.bits .xor .u64 y (shl .u64 1 (r : Int))⟩ := by
  have hl : (y.toNat ^^^ 2 ^ r) < 2 ^ 64 := Nat.xor_lt_two_pow (by omega) (Nat.pow_lt_pow_right (by decide) hr)
  rw [show (2 : Nat) ^ 64 = 18446744073709551616 from by decide] at hl
  have := bits_xor y.toNat r (by omega) hr
  rw [show ((y.toNat : Nat) : Int) = y from by omega] at this
  rw [shl_pow r hr, this]
  unfold mkN
  rw [xor_lo _ _ _ hr (by omega)]
  generalize y.toNat ^^^ 2 ^ r = z at *
  simp only [Ad, S31.mk.injEq, true_and]
  exact ⟨by omega, by omega⟩
theorem flip_hi {f : Bool} {x y : Int} {r : Nat} (h1 : 0 ≤ x) (h2 : x < 18446744073709551616) (h3 : 0 ≤ y) (h4 : y < 18446744073709551616) (hr : r < 64) : mkN f ((x.toNat * 18446744073709551616 + y.toNat) ^^^ 2 ^ (64 + r)) = ⟨f, Go.bits .xor .u64 x (shl .u64 1 (r : Int)), y⟩ := by
  have hl : (x.toNat ^^^ 2 ^ r) < 2 ^ 64 := Nat.xor_lt_two_pow (by omega) (Nat.pow_lt_pow_right (by decide) hr)
  rw [show (2 : Nat) ^ 64 = 18446744073709551616 from by decide] at hl
  have := bits_xor x.toNat r (by omega) hr
  rw [show ((x.toNat : Nat) : Int) = x from by omega] at this
  rw [shl_pow r hr, this]
  unfold mkN
  rw [xor_hi _ _ _ (by omega)]
  generalize x.toNat ^^^ 2 ^ r = z at *
  simp only [Ad, S31.mk.injEq, true_and]
  exact ⟨by omega, by omega⟩
theorem with_flip {b : Bool} {a : Ad} (h : AF a) {r i : Nat} (hr : i + (r + 1) = szA a.f0) (hb : ¬ ((nv a / 2 ^ r) % 2 == 1) = b) (k : Nat) : r06_with.l0 (k + 1) b (i : Int) a.f0 a.f1 a.f2 = r06_with.l0 k b ((i + 1 : Nat) : Int) (mkN a.f0 (nv a ^^^ 2 ^ r)).f0 (mkN a.f0 (nv a ^^^ 2 ^ r)).f1 (mkN a.f0 (nv a ^^^ 2 ^ r)).f2 := by
  have hW := szA_le a.f0
  have hi : (i : Int) < ((szA a.f0 : Nat) : Int) := by omega
  have hwi : wrap64 ((i : Int) + 1) = ((i + 1 : Nat) : Int) := r_up (by omega)
  rw [r06_with.l0, width_eq]
  rw [Option.bind_some]
  rw [if_pos hi, bit_eq h r i hr]
  rw [Option.bind_some]
  rw [if_neg (by rw [beq_iff_eq]; exact hb), hwi]
  clear hb hi hwi
  obtain ⟨⟨h1, h2, h3, h4⟩, h5⟩ := h
  obtain ⟨a0, a1, a2⟩ := a
  unfold nv
  dsimp only at h1 h2 h3 h4 h5 hr hW ⊢
  cases a0
  · have hr : i + (r + 1) = 32 := hr
    rw [if_neg Bool.false_ne_true, u64_wr (by omega) (by omega), if_pos (by omega), show (31 - (i : Int)) = (r : Int) from by omega, flip_lo h1 h2 h3 h4 (by omega)]
  · have hr : i + (r + 1) = 128 := hr
    rw [if_pos rfl]
    by_cases hi6 : (i : Int) < 64
    · rw [if_pos hi6, u64_wr (by omega) (by omega), if_pos (by omega)]
      obtain ⟨j, rfl⟩ : ∃ j, r = 64 + j := ⟨r - 64, by omega⟩
      rw [show (63 - (i : Int)) = (j : Int) from by omega, flip_hi h1 h2 h3 h4 (by omega)]
    · rw [if_neg hi6, u64_wr (by omega) (by omega), if_pos (by omega), show (127 - (i : Int)) = (r : Int) from by omega, flip_lo h1 h2 h3 h4 (by omega)]
theorem with_ev (b : Bool) : ∀ (r i : Nat) (a : Ad), AF a → i + r = szA a.f0 → Ev (fun k => r06_with.l0 k b (i : Int) a.f0 a.f1 a.f2) ((subA a r b).f0, (subA a r b).f1, (subA a r b).f2)
  | 0, i, a, h, hr => by
    refine Ev.step (f := fun _ => some (a.f0, a.f1, a.f2)) (fun k => ?_) ?_
    · rw [r06_with.l0, width_eq]
      rw [Option.bind_some]
      rw [if_neg (by omega)]
    · have e : subA a 0 b = a := by
        unfold subA setN
        rw [Nat.pow_zero, Nat.mod_one]
        cases b
        · simpa using mkN_nv h.1
        · simpa using mkN_nv h.1
      rw [e]
      exact Ev.now _
  | r + 1, i, a, h, hr => by
    have hW := szA_le a.f0
    have hi : (i : Int) < ((szA a.f0 : Nat) : Int) := by omega
    have hnl := h.nvlt
    by_cases hb : ((nv a / 2 ^ r) % 2 == 1) = b
    · have ih := with_ev b r (i + 1) a h (by omega)
      have e : subA a r b = subA a (r + 1) b := by
        unfold subA
        rw [← setN_flip, flipN, if_pos hb]
      rw [e] at ih
      refine Ev.step (fun k => ?_) ih
      rw [r06_with.l0, width_eq]
      rw [Option.bind_some]
      rw [if_pos hi, bit_eq h r i hr]
      rw [Option.bind_some]
      rw [if_pos (by rw [hb]; exact beq_self_eq_true b), show wrap64 ((i : Int) + 1) = ((i + 1 : Nat) : Int) from r_up (by omega)]
    · have hx : nv a ^^^ 2 ^ r < 2 ^ szA a.f0 := Nat.xor_lt_two_pow hnl (Nat.pow_lt_pow_right (by decide) (by omega))
      have ih := with_ev b r (i + 1) (mkN a.f0 (nv a ^^^ 2 ^ r)) (mkN_af hx) (by rw [mkN_f0]; omega)
      have e : subA (mkN a.f0 (nv a ^^^ 2 ^ r)) r b = subA a (r + 1) b := by
        unfold subA
        rw [nv_mkN, mkN_f0, ← setN_flip, flipN, if_neg hb]
      rw [e] at ih
      exact Ev.step (with_flip h hr hb) ih
def restN (a : Ad) (b : Int) : Nat := szA a.f0 - b.toNat
theorem withf_ev {a : Ad} (h : AF a) {b : Int} (h0 : 0 ≤ b) (h1 : b ≤ szA a.f0) (o : Bool) : Ev (fun k => r06_with.f k a.f0 a.f1 a.f2 b o) ((subA a (restN a b) o).f0, (subA a (restN a b) o).f1, (subA a (restN a b) o).f2) := by
  have := with_ev o (restN a b) b.toNat a h (by unfold restN; omega)
  rw [show ((b.toNat : Nat) : Int) = b from by omega] at this
  exact this
theorem con_far {p x : Ad} {b : Int} (h : p.f0 ≠ x.f0) : address_Contains.f p.f0 p.f1 p.f2 b x.f0 x.f1 x.f2 = some false := by
  unfold address_Contains.f
  rw [if_pos (bne_iff_ne.2 h)]
theorem con_eq {p x : Ad} (hp : AW p) (hx : AW x) {b : Int} (h : p.f0 = x.f0) (h0 : 0 ≤ b) (h1 : b ≤ szA p.f0) : address_Contains.f p.f0 p.f1 p.f2 b x.f0 x.f1 x.f2 = some (decide (subA x (restN p b) false = subA p (restN p b) false)) := by
  have hs := szA_le p.f0
  have hk : restN p b ≤ 128 := by unfold restN; omega
  have e1 := maskOff hp hk
  have e2 := maskOff hx hk
  unfold address_Contains.f
  rw [if_neg (by rw [h]; simp), mask_eq x b (restN p b) (by unfold restN; rw [← h]; omega) h0 (by rw [← h]; exact h1)]
  rw [Option.bind_some]
  rw [e1.1, e1.2, e2.1, e2.2]
  by_cases c : (subA x (restN p b) false).f1 = (subA p (restN p b) false).f1
  · rw [if_pos c]
    congr 1
    rw [Bool.eq_iff_iff, beq_iff_eq, decide_eq_true_eq]
    constructor
    · intro c2
      have : ∀ u v : Ad, u.f0 = v.f0 → u.f1 = v.f1 → u.f2 = v.f2 → u = v := fun u v g0 g1 g2 => by cases u; cases v; simp at g0 g1 g2; simp [g0, g1, g2]
      exact this _ _ (by rw [subA_f0, subA_f0, h]) c c2
    · intro e; rw [e]
  · rw [if_neg c]
    have : ¬ (subA x (restN p b) false = subA p (restN p b) false) := fun e => c (by rw [e])
    rw [decide_eq_false this]
theorem rcon_far {p x : Ad} {b : Int} (h : p.f0 ≠ x.f0) (k : Nat) : r06_Contains.f k p.f0 p.f1 p.f2 b x.f0 x.f1 x.f2 = some false := by
  unfold r06_Contains.f
  rw [if_neg (by rw [beq_iff_eq]; exact h)]
theorem rcon_ev {p x : Ad} (hx : AF x) {b : Int} (h : p.f0 = x.f0) (h0 : 0 ≤ b) (h1 : b ≤ szA p.f0) : Ev (fun k => r06_Contains.f k p.f0 p.f1 p.f2 b x.f0 x.f1 x.f2) (decide (subA x (restN p b) false = p)) := by
  refine Ev.congr (g := fun k => r06_Contains.f k p.f0 p.f1 p.f2 b x.f0 x.f1 x.f2) (f := fun k => (r06_with.f k x.f0 x.f1 x.f2 b false).bind fun t => some (t.1 == p.f0 && (t.2.1 == p.f1 && (t.2.2 == p.f2)))) (fun k => ?_) ?_
  · unfold r06_Contains.f
    rw [if_pos (by rw [h]; exact beq_self_eq_true _)]
  · have e : restN p b = restN x b := by unfold restN; rw [h]
    rw [e, ← ends_eq]
    exact Ev.bind (withf_ev hx h0 (by rw [← h]; exact h1) false) (Ev.now _)
theorem bt_list (s : ByteArray) (i : Nat) (h : i < s.data.toList.length) : bt s (i : Int) = ((s.data.toList[i]'h).toNat : Int) := by
  have hs : i < s.size := by rw [Array.length_toList] at h; exact h
  unfold bt
  have e : ((i : Int)).toNat = i := Int.toNat_natCast i
  rw [dif_pos (by rw [e]; exact hs)]
  have : ∀ (j : Nat) (hj : j < s.size), j = i → s[j].toNat = (s.data.toList[i]'h).toNat := fun j hj e => by
    subst e
    rfl
  rw [this _ _ e]
theorem size_list (s : ByteArray) : s.size = s.data.toList.length := (Array.length_toList).symm
theorem up_i {i : Nat} (h : i < 1000) : wrap64 ((i : Int) + 1) = ((i + 1 : Nat) : Int) := by rw [wid (by omega) (by omega)]; omega
theorem p256 (j : Nat) : 2 ^ (8 * j) = 256 ^ j := by rw [Nat.pow_mul]
theorem num_tab : ((List.range 256).all fun n => (r06_Number.f 6 (n : Int)).map (fun b => b.data.toList) == some (Lib.itoa (n : Int)) && decide ((Lib.itoa (n : Int)).length ≤ 3)) = true := by kernel_rfl
theorem num_ev {n : Int} (h0 : 0 ≤ n) (h1 : n < 256) : Ev (fun k => r06_Number.f k n) (decB n) ∧ (decB n).size ≤ 3 := by
  have := List.all_eq_true.1 num_tab n.toNat (List.mem_range.2 (by omega))
  rw [Bool.and_eq_true, beq_iff_eq, decide_eq_true_eq, show ((n.toNat : Nat) : Int) = n from by omega] at this
  obtain ⟨e, hl⟩ := this
  obtain ⟨b, hb, he⟩ := Option.map_eq_some_iff.1 e
  have hd : b = decB n := by
    unfold decB
    apply ByteArray.ext
    rw [← Array.toList_inj]
    exact he
  rw [hd] at hb
  refine ⟨Ev.of (r06_Number.mono n) hb, ?_⟩
  unfold decB
  show (Lib.itoa n).toArray.size ≤ 3
  rw [List.size_toArray]
  exact hl
theorem hex_cut : ((List.range 16).all fun m => ((⟨#[48, 49, 50, 51, 52, 53, 54, 55, 56, 57, 97, 98, 99, 100, 101, 102]⟩ : ByteArray).extract m (m + 1)).data.toList == [hexD m]) = true := by kernel_rfl
theorem hex_cut' {m : Nat} (h : m < 16) : ((⟨#[48, 49, 50, 51, 52, 53, 54, 55, 56, 57, 97, 98, 99, 100, 101, 102]⟩ : ByteArray).extract m (m + 1)) = ⟨#[hexD m]⟩ := by
  have := List.all_eq_true.1 hex_cut m (List.mem_range.2 h)
  rw [beq_iff_eq] at this
  apply ByteArray.ext
  rw [← Array.toList_inj, this]
theorem ba_app (l r : List UInt8) (t : ByteArray) : (⟨(l ++ r).toArray⟩ : ByteArray) ++ t = ⟨l.toArray⟩ ++ (⟨r.toArray⟩ ++ t) := by
  apply ByteArray.ext
  rw [ByteArray.data_append, ByteArray.data_append, ByteArray.data_append, ← Array.toList_inj]
  simp
theorem rhex0 : ∀ (d n : Nat) (t : ByteArray), d ≤ 3 → n < 16 ^ (d + 1) → t.size + d ≤ 100 → Ev (fun k => r06_hex.l0 k (n : Int) t) ((⟨(hexL (d + 1) n).toArray⟩ : ByteArray) ++ t) := by
  intro d
  induction d with
  | zero =>
    intro n t hd3 hn ht
    have hn : n < 16 := by simpa using hn
    refine Ev.step (f := fun _ => some ((⟨(hexL (0 + 1) n).toArray⟩ : ByteArray) ++ t)) (fun k => ?_) (Ev.now _)
    have e : wrap64 ((n : Int) + 1) = ((n + 1 : Nat) : Int) := up_i (by omega)
    rw [r06_hex.l0, if_neg (by omega), if_pos (by omega), e, if_pos (by omega), if_pos (by omega), Int.toNat_natCast, Int.toNat_natCast, hex_cut' hn, if_pos (by show 1 + t.size ≤ _; omega), hexL, if_pos hn]
  | succ d ih =>
    intro n t hd3 hn ht
    by_cases h : n < 16
    · refine Ev.step (f := fun _ => some ((⟨(hexL (d + 1 + 1) n).toArray⟩ : ByteArray) ++ t)) (fun k => ?_) (Ev.now _)
      have e : wrap64 ((n : Int) + 1) = ((n + 1 : Nat) : Int) := up_i (by omega)
      rw [r06_hex.l0, if_neg (by omega), if_pos (by omega), e, if_pos (by omega), if_pos (by omega), Int.toNat_natCast, Int.toNat_natCast, hex_cut' h, if_pos (by show 1 + t.size ≤ _; omega), hexL, if_pos h]
    · have hm : n % 16 < 16 := Nat.mod_lt _ (by decide)
      have hq : n / 16 < 16 ^ (d + 1) := Nat.div_lt_of_lt_mul (by rw [Nat.pow_succ, Nat.mul_comm] at hn; exact hn)
      have hb : n < 9223372036854775808 := by
        have := Nat.pow_le_pow_right (show 0 < 16 by decide) (show d + 1 + 1 ≤ 4 by omega)
        rw [show (16 : Nat) ^ 4 = 65536 from by decide] at this
        omega
      have := ih (n / 16) (⟨#[hexD (n % 16)]⟩ ++ t) (by omega) hq (by rw [ByteArray.size_append, show (⟨#[hexD (n % 16)]⟩ : ByteArray).size = 1 from rfl]; omega)
      rw [show (⟨(hexL (d + 1 + 1) n).toArray⟩ : ByteArray) ++ t = ⟨(hexL (d + 1) (n / 16)).toArray⟩ ++ (⟨#[hexD (n % 16)]⟩ ++ t) from by rw [hexL, if_neg h]; exact ba_app _ _ _]
      refine Ev.step (fun k => ?_) this
      have e1 : Int.tmod (n : Int) 16 = ((n % 16 : Nat) : Int) := rfl
      have e2 : wrap64 (Int.tdiv (n : Int) 16) = ((n / 16 : Nat) : Int) := by rw [show Int.tdiv (n : Int) 16 = ((n / 16 : Nat) : Int) from rfl, wid (by omega) (by omega)]
      have e3 : wrap64 (((n % 16 : Nat) : Int) + 1) = ((n % 16 + 1 : Nat) : Int) := up_i (by omega)
      rw [r06_hex.l0, if_pos (by omega), e1, e2, if_pos (by omega), e3, if_pos (by omega), if_pos (by omega), Int.toNat_natCast, Int.toNat_natCast, hex_cut' hm, if_pos (by show 1 + t.size ≤ _; omega)]
theorem rhex_ev {x : Int} (h : 0 ≤ x ∧ x < 65536) : Ev (fun k => r06_hex.f k x) ⟨(hexL 4 x.toNat).toArray⟩ := by
  have := rhex0 3 x.toNat ⟨#[]⟩ (by omega) (by simp; omega) (by decide)
  rw [show ((x.toNat : Nat) : Int) = x from by omega] at this
  rw [show (⟨(hexL (3 + 1) x.toNat).toArray⟩ : ByteArray) ++ ⟨#[]⟩ = ⟨(hexL 4 x.toNat).toArray⟩ from by apply ByteArray.ext; rw [ByteArray.data_append]; simp] at this
  exact this
theorem w_and (x : Int) : wrap64 (Go.bits .and .u64 x 65535) = Go.bits .and .u64 x 65535 := by
  have := and65535 x
  exact wid (by omega) (by omega)
theorem groups0 (hi lo : Int) : r06_Groups.f 11 true hi lo = some [wrap64 (Go.bits .and .u64 (hi / 281474976710656) 65535), wrap64 (Go.bits .and .u64 (hi / 4294967296) 65535), wrap64 (Go.bits .and .u64 (hi / 65536) 65535), wrap64 (Go.bits .and .u64 (hi / 1) 65535), wrap64 (Go.bits .and .u64 (lo / 281474976710656) 65535), wrap64 (Go.bits .and .u64 (lo / 4294967296) 65535), wrap64 (Go.bits .and .u64 (lo / 65536) 65535), wrap64 (Go.bits .and .u64 (lo / 1) 65535)] := by kernel_rfl
theorem groups_ev (hi lo : Int) : Ev (fun k => r06_Groups.f k true hi lo) (grpL hi lo) := by
  have := groups0 hi lo
  simp only [w_and, Int.ediv_one] at this
  exact Ev.of (r06_Groups.mono true hi lo) this
theorem rd_nat (l : List Int) (i : Nat) : rd l (i : Int) = l.getD i 0 := by unfold rd; rw [Int.toNat_natCast]
theorem rrun0 (l : List Int) (hl : l.length = 8) (i : Nat) (hi : i ≤ 8) : ∀ (d n : Nat), 8 - (i + n) = d → i + n ≤ 8 → zEnd l (8 - i) i = zEnd l (8 - (i + n)) (i + n) → Ev (fun k => r06_run.l0 k l (i : Int) (n : Int)) ((zEnd l (8 - i) i - i : Nat) : Int)
  | 0, n, hd, hn, he => by
    refine Ev.step (f := fun _ => some ((zEnd l (8 - i) i - i : Nat) : Int)) (fun k => ?_) (Ev.now _)
    rw [r06_run.l0, wid (by omega) (by omega), if_neg (by omega), he, hd, zEnd]
    congr 1
    omega
  | d + 1, n, hd, hn, he => by
    by_cases hz : l.getD (i + n) 0 = 0
    · have ih := rrun0 l hl i hi d (n + 1) (by omega) (by omega) (by rw [he, show 8 - (i + n) = (8 - (i + (n + 1))) + 1 from by omega, zEnd, if_pos hz]; rfl)
      refine Ev.step (fun k => ?_) ih
      rw [r06_run.l0, wid (by omega) (by omega), if_pos (by omega), if_pos (by omega), show (i : Int) + (n : Int) = ((i + n : Nat) : Int) from rfl, rd_nat, if_pos hz, up_i (by omega)]
    · refine Ev.step (f := fun _ => some ((zEnd l (8 - i) i - i : Nat) : Int)) (fun k => ?_) (Ev.now _)
      rw [r06_run.l0, wid (by omega) (by omega), if_pos (by omega), if_pos (by omega), show (i : Int) + (n : Int) = ((i + n : Nat) : Int) from rfl, rd_nat, if_neg hz, he, show 8 - (i + n) = (8 - (i + n + 1)) + 1 from by omega, zEnd, if_neg hz]
      congr 1
      omega
theorem rrun_ev (l : List Int) (hl : l.length = 8) (i : Nat) (hi : i ≤ 8) : Ev (fun k => r06_run.f k l (i : Int)) ((zEnd l (8 - i) i - i : Nat) : Int) := rrun0 l hl i hi _ 0 rfl (by omega) rfl
def RelP (a b : Nat) (at_ most : Int) : Prop := (1 < b - a ∧ at_ = (a : Int) ∧ most = ((b - a : Nat) : Int)) ∨ (b - a ≤ 1 ∧ at_ = -1 ∧ most = 1)
theorem suf_last (l : List UInt8) (h : l ≠ []) : Lib.hasSuffix l [58] = (l[l.length - 1]'(by have := List.length_pos_iff.2 h; omega) == 58) := by
  obtain ⟨t, c, rfl⟩ : ∃ t c, l = t ++ [c] := ⟨l.dropLast, l.getLast h, (List.dropLast_concat_getLast h).symm⟩
  unfold Lib.hasSuffix List.isSuffixOf
  rw [List.reverse_append]
  simp [List.isPrefixOf]
  rw [Bool.eq_iff_iff, beq_iff_eq, beq_iff_eq]
  exact eq_comm
theorem toList_nil (o : ByteArray) : o.toList = [] ↔ o.data.toList = [] := by rw [ByteArray.toList_eq]
theorem rtext (l : List Int) (hl : l.length = 8) (hv : ∀ k, k < 8 → 0 ≤ l.getD k 0 ∧ l.getD k 0 < 65536) {p q : Nat} (hp : p ≤ q) (hq : q ≤ 8) {at_ most : Int} (hr : RelP p q at_ most) : ∀ (d i : Nat) (o : ByteArray), 8 - i ≤ d → i ≤ 8 → o.size + 8 * d ≤ 64 → Ev (fun k => r06_Format.l1 k l at_ most o (i : Int)) (fmtT l p q d i o) := by
  intro d
  induction d with
  | zero =>
    intro i o hd hi ho
    refine Ev.step (f := fun _ => some o) (fun k => ?_) (Ev.now _)
    rw [r06_Format.l1, if_neg (by omega)]
  | succ d ih =>
    intro i o hd hi ho
    by_cases hi8 : i < 8
    · by_cases hc : i = p ∧ 1 < q - p
      · have e : at_ = (i : Int) ∧ most = ((q - p : Nat) : Int) := by
          rcases hr with ⟨h1, h2, h3⟩ | ⟨h1, h2, h3⟩
          · exact ⟨by omega, h3⟩
          · omega
        have := ih q (o ++ ⟨#[58, 58]⟩) (by omega) hq (by rw [ByteArray.size_append, show (⟨#[58, 58]⟩ : ByteArray).size = 2 from rfl]; omega)
        rw [fmtT, if_pos hi8, if_pos hc]
        refine Ev.step (fun k => ?_) this
        rw [r06_Format.l1, if_pos (by omega), if_pos e.1.symm, if_pos (by omega), e.2]
        congr 1
        rw [wid (x := ((q - p : Nat) : Int) - 1) (by omega) (by omega), wid (x := (i : Int) + (((q - p : Nat) : Int) - 1)) (by omega) (by omega), wid (by omega) (by omega)]
        omega
      · have e : ¬ ((i : Int) = at_) := by
          rcases hr with ⟨h1, h2, h3⟩ | ⟨h1, h2, h3⟩
          · intro h; apply hc; exact ⟨by omega, h1⟩
          · omega
        have hx := rhex_ev (hv i hi8)
        have hsz := hexL_size 4 (l.getD i 0).toNat
        obtain ⟨K, hK⟩ := hx
        by_cases hn : o.toList = []
        · have := ih (i + 1) (o ++ ⟨(hexL 4 (l.getD i 0).toNat).toArray⟩) (by omega) (by omega) (by rw [ByteArray.size_append]; omega)
          obtain ⟨K2, h2⟩ := this
          rw [fmtT, if_pos hi8, if_neg hc, if_neg (show ¬ (o.toList ≠ [] ∧ Lib.hasSuffix o.data.toList [58] = false) from fun h => h.1 hn)]
          refine ⟨K + K2 + 1, fun k hk => ?_⟩
          obtain ⟨m, rfl⟩ : ∃ m, k = m + 1 := ⟨k - 1, by omega⟩
          have f1 := hK m (by omega)
          have f2 := h2 m (by omega)
          dsimp only at f1 f2 ⊢
          rw [r06_Format.l1, if_pos (by omega), if_neg e, if_pos hn, if_pos (by omega), if_pos (by omega), rd_nat, f1, Option.bind_some, if_pos (by omega), up_i (by omega)]
          exact f2
        · have hne : o.data.toList ≠ [] := fun h => hn ((toList_nil o).2 h)
          have hlen := List.length_pos_iff.2 hne
          rw [← size_list] at hlen
          have ew : wrap64 ((o.size : Int) - 1) = ((o.size - 1 : Nat) : Int) := by rw [wid (by omega) (by omega)]; omega
          have hlast := suf_last o.data.toList hne
          have hb := bt_list o (o.size - 1) (by rw [← size_list]; omega)
          have hidx : (o.data.toList[o.size - 1]'(by rw [← size_list]; omega)) = o.data.toList[o.data.toList.length - 1]'(by rw [← size_list]; omega) := by
            congr 1
          rw [hidx] at hb
          by_cases hsuf : Lib.hasSuffix o.data.toList [58] = false
          · have hb8 : ¬ (bt o ((o.size - 1 : Nat) : Int) = 58) := by
              rw [hb]
              rw [hlast] at hsuf
              intro h
              have : o.data.toList[o.data.toList.length - 1]'(by rw [← size_list]; omega) = 58 := by
                apply UInt8.toNat_inj.1
                have : (58 : UInt8).toNat = 58 := rfl
                omega
              rw [this] at hsuf
              cases hsuf
            have := ih (i + 1) (o ++ ⟨#[58]⟩ ++ ⟨(hexL 4 (l.getD i 0).toNat).toArray⟩) (by omega) (by omega) (by rw [ByteArray.size_append, ByteArray.size_append, show (⟨#[58]⟩ : ByteArray).size = 1 from rfl]; omega)
            obtain ⟨K2, h2⟩ := this
            rw [fmtT, if_pos hi8, if_neg hc, if_pos (show (o.toList ≠ [] ∧ Lib.hasSuffix o.data.toList [58] = false) from ⟨hn, hsuf⟩)]
            refine ⟨K + K2 + 1, fun k hk => ?_⟩
            obtain ⟨m, rfl⟩ : ∃ m, k = m + 1 := ⟨k - 1, by omega⟩
            have f1 := hK m (by omega)
            have f2 := h2 m (by omega)
            dsimp only at f1 f2 ⊢
            rw [r06_Format.l1, if_pos (by omega), if_neg e, if_neg hn, ew, if_pos (by omega), if_pos (by omega), if_neg hb8, if_pos (by omega), if_pos (by omega), if_pos (by omega), rd_nat, f1, Option.bind_some, if_pos (by rw [ByteArray.size_append, show (⟨#[58]⟩ : ByteArray).size = 1 from rfl]; omega), up_i (by omega)]
            exact f2
          · have hb8 : bt o ((o.size - 1 : Nat) : Int) = 58 := by
              rw [hb]
              rw [hlast, Bool.not_eq_false, beq_iff_eq] at hsuf
              rw [hsuf]
              rfl
            have := ih (i + 1) (o ++ ⟨(hexL 4 (l.getD i 0).toNat).toArray⟩) (by omega) (by omega) (by rw [ByteArray.size_append]; omega)
            obtain ⟨K2, h2⟩ := this
            rw [fmtT, if_pos hi8, if_neg hc, if_neg (show ¬ (o.toList ≠ [] ∧ Lib.hasSuffix o.data.toList [58] = false) from fun h => hsuf h.2)]
            refine ⟨K + K2 + 1, fun k hk => ?_⟩
            obtain ⟨m, rfl⟩ : ∃ m, k = m + 1 := ⟨k - 1, by omega⟩
            have f1 := hK m (by omega)
            have f2 := h2 m (by omega)
            dsimp only at f1 f2 ⊢
            rw [r06_Format.l1, if_pos (by omega), if_neg e, if_neg hn, ew, if_pos (by omega), if_pos (by omega), if_pos hb8, if_pos (by omega), if_pos (by omega), rd_nat, f1, Option.bind_some, if_pos (by omega), up_i (by omega)]
            exact f2
    · refine Ev.step (f := fun _ => some o) (fun k => ?_) ?_
      · rw [r06_Format.l1, if_neg (by omega)]
      · rw [fmtT, if_neg hi8]; exact Ev.now _
theorem rbest (l : List Int) (hl : l.length = 8) {r : ByteArray} : ∀ (d i a b : Nat) (at_ most : Int), d + i = 8 → a ≤ b → b ≤ 8 → RelP a b at_ most → (∀ at' most', RelP (runF l d i (a, b)).1 (runF l d i (a, b)).2 at' most' → Ev (fun k => r06_Format.l1 k l at' most' ⟨#[]⟩ 0) r) → Ev (fun k => r06_Format.l0 k l at_ most (i : Int)) r
  | 0, i, a, b, at_, most, hd, hab, hb, hr, h => by
    refine Ev.step (fun k => ?_) (h at_ most hr)
    rw [r06_Format.l0, if_neg (by omega)]
  | d + 1, i, a, b, at_, most, hd, hab, hb, hr, h => by
    have hz := zEnd_le l (8 - i) i
    obtain ⟨K, hK⟩ := rrun_ev l hl i (by omega)
    rw [runF] at h
    have e8 : 8 - i = d + 1 := by omega
    by_cases hc : ((zEnd l (8 - i) i - i : Nat) : Int) > most
    · have hc2 : b - a < zEnd l (8 - i) i - i := by rcases hr with ⟨h1, h2, h3⟩ | ⟨h1, h2, h3⟩ <;> omega
      have hgt : 1 < zEnd l (8 - i) i - i := by rcases hr with ⟨h1, h2, h3⟩ | ⟨h1, h2, h3⟩ <;> omega
      rw [if_pos (show (a, b).2 - (a, b).1 < zEnd l (8 - i) i - i from hc2)] at h
      obtain ⟨K2, h2⟩ := rbest l hl d (i + 1) i (zEnd l (8 - i) i) (i : Int) ((zEnd l (8 - i) i - i : Nat) : Int) (by omega) hz.1 (by omega) (.inl ⟨hgt, rfl, rfl⟩) h
      refine ⟨K + K2 + 1, fun k hk => ?_⟩
      obtain ⟨m, rfl⟩ : ∃ m, k = m + 1 := ⟨k - 1, by omega⟩
      have f1 := hK m (by omega)
      have f2 := h2 m (by omega)
      dsimp only at f1 f2 ⊢
      rw [r06_Format.l0, if_pos (by omega), f1, Option.bind_some, if_pos hc, Option.bind_some, up_i (by omega)]
      exact f2
    · have hrel : RelP (if b - a < zEnd l (8 - i) i - i then (i, zEnd l (8 - i) i) else (a, b)).1 (if b - a < zEnd l (8 - i) i - i then (i, zEnd l (8 - i) i) else (a, b)).2 at_ most ∧ (if b - a < zEnd l (8 - i) i - i then (i, zEnd l (8 - i) i) else (a, b)).1 ≤ (if b - a < zEnd l (8 - i) i - i then (i, zEnd l (8 - i) i) else (a, b)).2 ∧ (if b - a < zEnd l (8 - i) i - i then (i, zEnd l (8 - i) i) else (a, b)).2 ≤ 8 := by
        split
        · rename_i h9
          rcases hr with ⟨h1, h2, h3⟩ | ⟨h1, h2, h3⟩
          · omega
          · exact ⟨.inr ⟨by simp only; omega, h2, h3⟩, hz.1, by simp only; omega⟩
        · exact ⟨hr, hab, hb⟩
      obtain ⟨K2, h2⟩ := rbest l hl d (i + 1) _ _ at_ most (by omega) hrel.2.1 hrel.2.2 hrel.1 h
      refine ⟨K + K2 + 1, fun k hk => ?_⟩
      obtain ⟨m, rfl⟩ : ∃ m, k = m + 1 := ⟨k - 1, by omega⟩
      have f1 := hK m (by omega)
      have f2 := h2 m (by omega)
      dsimp only at f1 f2 ⊢
      rw [r06_Format.l0, if_pos (by omega), f1, Option.bind_some, if_neg hc, up_i (by omega)]
      exact f2
theorem grpL_v (hi lo : Int) (k : Nat) (hk : k < 8) : 0 ≤ (grpL hi lo).getD k 0 ∧ (grpL hi lo).getD k 0 < 65536 := by
  rcases k with _ | _ | _ | _ | _ | _ | _ | _ | k <;> first | omega | exact and65535 _
theorem fmt6_ev (hi lo : Int) : Ev (fun k => r06_Format.f k true hi lo) (fmt6 hi lo) := by
  unfold r06_Format.f
  refine Ev.congr (f := fun k => (r06_Groups.f k true hi lo).bind fun t => r06_Format.l0 k t (-1) 1 0) (fun k => if_pos rfl) ?_
  refine Ev.bind (groups_ev hi lo) ?_
  refine rbest (grpL hi lo) rfl 8 0 0 0 (-1) 1 rfl (by omega) (by omega) (.inr ⟨by omega, rfl, rfl⟩) (fun at' most' hr => ?_)
  have ho := runF_ok (grpL hi lo)
  exact rtext (grpL hi lo) rfl (grpL_v hi lo) ho.1 ho.2 hr 8 0 ⟨#[]⟩ (by omega) (by omega) (by decide)
end Go.Proofs.YtnphnhkinjppjaaGreatDoor.Q
end

section
set_option maxHeartbeats 8000000
set_option maxRecDepth 100000
namespace Go.Proofs.YtnphnhkinjppjaaGreatDoor.Q
open Go.RowKit Go.Proofs.YtnphnhkinjppjaaGreatDoorW.PrintWords Go.Proofs.YtnphnhkinjppjaaGreatDoorW.PrintLast Go.Proofs.YtnphnhkinjppjaaGreatDoorW.PrintMore
attribute [local go_sem] max2_int min2_int max_two min_two max_three min_three max_four min_four
mutual
def lexer_class.j0 : Nat → Int → Bool → Option (Int)
  | 0, _, _ => none
  | k + 1, x3, x6 => if x6 = true then (some 1) else (if x3 ≥ 97 then (if x3 ≤ 122 then (lexer_class.j1 k x3 true) else (if x3 ≥ 65 then (lexer_class.j1 k x3 (decide (x3 ≤ 90))) else (lexer_class.j1 k x3 false))) else (if x3 ≥ 65 then (lexer_class.j1 k x3 (decide (x3 ≤ 90))) else (lexer_class.j1 k x3 false)))
def lexer_class.j1 : Nat → Int → Bool → Option (Int)
  | 0, _, _ => none
  | k + 1, x3, x21 => if x21 = true then (some 2) else (if x3 ≥ 48 then (lexer_class.j2 k x3 (decide (x3 ≤ 57))) else (lexer_class.j2 k x3 false))
def lexer_class.j2 : Nat → Int → Bool → Option (Int)
  | 0, _, _ => none
  | k + 1, x3, x36 => if x36 = true then (some 3) else (if x3 = 95 then (some 4) else (if x3 = 46 then (some 4) else (if x3 = 58 then (some 4) else (if x3 = 47 then (some 4) else (some 0)))))
end
def lexer_class.f (k : Nat) (a0 : Int) : Option (Int) := if (wrap32 (a0)) = 32 then (lexer_class.j0 k (wrap32 (a0)) true) else (if (wrap32 (a0)) = 9 then (lexer_class.j0 k (wrap32 (a0)) true) else (if (wrap32 (a0)) = 10 then (lexer_class.j0 k (wrap32 (a0)) true) else (lexer_class.j0 k (wrap32 (a0)) ((wrap32 (a0)) == 13))))
theorem lexer_class.mono_l : ∀ k, (∀ y0 y1, LeO (lexer_class.j0 k y0 y1) (lexer_class.j0 (k + 1) y0 y1)) ∧ (∀ y0 y1, LeO (lexer_class.j1 k y0 y1) (lexer_class.j1 (k + 1) y0 y1)) ∧ (∀ y0 y1, LeO (lexer_class.j2 k y0 y1) (lexer_class.j2 (k + 1) y0 y1))
  | 0 => ⟨fun _ _ r h => by simp [lexer_class.j0] at h, fun _ _ r h => by simp [lexer_class.j1] at h, fun _ _ r h => by simp [lexer_class.j2] at h⟩
  | k + 1 => by
    obtain ⟨ih0, ih1, ih2⟩ := lexer_class.mono_l k
    refine ⟨?_, ?_, ?_⟩
    · intro y0 y1
      unfold lexer_class.j0
      repeat' first
      | (with_reducible exact ih0 _ _)
      | (with_reducible exact ih1 _ _)
      | (with_reducible exact ih2 _ _)
      | (with_reducible exact LeO.refl _)
      | (with_reducible exact LeO.none _)
      | (with_reducible refine LeO.ite ?_ ?_)
      | (with_reducible refine LeO.bind ?_ (fun _ => ?_))
    · intro y0 y1
      unfold lexer_class.j1
      repeat' first
      | (with_reducible exact ih0 _ _)
      | (with_reducible exact ih1 _ _)
      | (with_reducible exact ih2 _ _)
      | (with_reducible exact LeO.refl _)
      | (with_reducible exact LeO.none _)
      | (with_reducible refine LeO.ite ?_ ?_)
      | (with_reducible refine LeO.bind ?_ (fun _ => ?_))
    · intro y0 y1
      unfold lexer_class.j2
      repeat' first
      | (with_reducible exact ih0 _ _)
      | (with_reducible exact ih1 _ _)
      | (with_reducible exact ih2 _ _)
      | (with_reducible exact LeO.refl _)
      | (with_reducible exact LeO.none _)
      | (with_reducible refine LeO.ite ?_ ?_)
      | (with_reducible refine LeO.bind ?_ (fun _ => ?_))
theorem lexer_class.mono : ∀ a0 k, LeO (lexer_class.f k a0) (lexer_class.f (k + 1) a0) := by
  intro a0 k
  obtain ⟨ih0, ih1, ih2⟩ := lexer_class.mono_l k
  unfold lexer_class.f
  repeat' first
      | (with_reducible exact ih0 _ _)
      | (with_reducible exact ih1 _ _)
      | (with_reducible exact ih2 _ _)
      | (with_reducible exact LeO.refl _)
      | (with_reducible exact LeO.none _)
      | (with_reducible refine LeO.ite ?_ ?_)
      | (with_reducible refine LeO.bind ?_ (fun _ => ?_))
theorem lexer_class.calls (k : Nat) (a0 : Int) (r : Int) (w : World) (h : lexer_class.f k a0 = some r) :
 Calls Tryz.prog 88 #[.int .u8 a0] w fun e w' => e = .returned (.int .i64 r) ∧ Drawn0 w w' := by
 unfold lexer_class.f at h; have H := h
 clear h; have HC2 := Aside0.mk H; clear H
 go_enter Tryz.func88, Tryz.ntmps88
 go_upto_region 2 with (fail)
 go_cut [6] (fun v6 wc => ∃ (kq : Nat) (x6_1 : Bool), v6 = .bool x6_1 ∧ Aside0 (lexer_class.j0 kq (wrap32 (a0)) x6_1 = some r) ∧ Aside0 (kq ≤ k) ∧ Drawn0 w wc)
 case first =>
  have H := HC2.out
  clear HC2
  by_cases c3 : (wrap32 (a0)) = 32
  · rw [if_pos c3] at H
    have c3b0 : ((wrap32 (a0)) == 32) = true := beq_iff_eq.mpr c3; have c3b1 : ((wrap32 (a0)) != 32) = false := bne_eq_false_iff_eq.mpr c3; clear c3
    (first | rw [c3b0] | (simp only [i64_w, i32_w]; rw [c3b0]) | skip)
    have H' := Aside0.mk H
    clear H
    go_wp2
    go_meet
    case rel => exact ⟨_, (true), zI, H', ⟨by first | omega | exact Nat.le_refl _⟩, by repeat (first | exact Drawn0.refl _ | apply Drawn0.step)⟩
  rw [if_neg c3] at H
  have c3b0 : ((wrap32 (a0)) == 32) = false := beq_eq_false_iff_ne.mpr c3
  have c3b1 : ((wrap32 (a0)) != 32) = true := bne_iff_ne.mpr c3
  (first | rw [c3b0] | (simp only [i64_w, i32_w]; rw [c3b0]) | skip)
  by_cases c4 : (wrap32 (a0)) = 9
  · rw [if_pos c4] at H
    have c4b0 : ((wrap32 (a0)) == 9) = true := beq_iff_eq.mpr c4; have c4b1 : ((wrap32 (a0)) != 9) = false := bne_eq_false_iff_eq.mpr c4; clear c4
    have H' := Aside0.mk H
    clear H
    go_wp2
    go_meet
    case rel => exact ⟨_, (true), zI, H', ⟨by first | omega | exact Nat.le_refl _⟩, by repeat (first | exact Drawn0.refl _ | apply Drawn0.step)⟩
  rw [if_neg c4] at H
  have c4b0 : ((wrap32 (a0)) == 9) = false := beq_eq_false_iff_ne.mpr c4
  have c4b1 : ((wrap32 (a0)) != 9) = true := bne_iff_ne.mpr c4
  by_cases c5 : (wrap32 (a0)) = 10
  · rw [if_pos c5] at H
    have c5b0 : ((wrap32 (a0)) == 10) = true := beq_iff_eq.mpr c5; have c5b1 : ((wrap32 (a0)) != 10) = false := bne_eq_false_iff_eq.mpr c5; clear c5
    have H' := Aside0.mk H
    clear H
    go_wp2
    go_meet
    case rel => exact ⟨_, (true), zI, H', ⟨by first | omega | exact Nat.le_refl _⟩, by repeat (first | exact Drawn0.refl _ | apply Drawn0.step)⟩
  rw [if_neg c5] at H
  have c5b0 : ((wrap32 (a0)) == 10) = false := beq_eq_false_iff_ne.mpr c5
  have c5b1 : ((wrap32 (a0)) != 10) = true := bne_iff_ne.mpr c5
  have H' := Aside0.mk H
  clear H
  go_wp2
  go_meet
  case rel => exact ⟨_, (((wrap32 (a0)) == 13)), zI, H', ⟨by first | omega | exact Nat.le_refl _⟩, by repeat (first | exact Drawn0.refl _ | apply Drawn0.step)⟩
 case rest =>
  clear HC2
  obtain ⟨kq, x6_1, rfl, HA, HJ1, ⟨mc1, rfl⟩⟩ := hcut
  rcases kq with _ | kj1
  · exact absurd HA.out (by simp [lexer_class.j0])
  have H := HA.out
  clear HA
  simp only [lexer_class.j0] at H
  by_cases c6 : x6_1 = true
  · subst c6
    rw [if_pos rfl] at H
    obtain rfl := Option.some.inj H
    go_wp2
    go_ret
    exact ⟨by first | rfl | (simp; done) | (simp [*]; done), by repeat (first | exact Drawn0.refl _ | apply Drawn0.step)⟩
  replace c6 := Bool.eq_false_iff.mpr c6
  subst c6; rw [if_neg zF] at H; have HC7 := Aside0.mk H; clear H
  go_upto_region 4 with (fail)
  go_cut [21] (fun v21 wc => ∃ (kq : Nat) (x21_6 : Bool), v21 = .bool x21_6 ∧ Aside0 (lexer_class.j1 kq (wrap32 (a0)) x21_6 = some r) ∧ Aside0 (kq ≤ kj1) ∧ Drawn0 w wc)
  case first =>
   have H := HC7.out
   clear HC7
   by_cases c8 : (wrap32 (a0)) ≥ 97
   · rw [if_pos c8] at H
     have c8b0 : decide (97 ≤ (wrap32 (a0))) = true := decide_eq_true c8; clear c8
     (first | rw [c8b0] | (simp only [i64_w, i32_w]; rw [c8b0]) | skip)
     by_cases c9 : (wrap32 (a0)) ≤ 122
     · rw [if_pos c9] at H
       have c9b0 : decide ((wrap32 (a0)) ≤ 122) = true := decide_eq_true c9; clear c9
       have H' := Aside0.mk H
       clear H
       go_wp2
       go_meet
       case rel => exact ⟨_, (true), zI, H', ⟨by have := HJ1.out; first | omega | exact Nat.le_refl _⟩, by repeat (first | exact Drawn0.refl _ | apply Drawn0.step)⟩
     rw [if_neg c9] at H
     have c9b0 : decide ((wrap32 (a0)) ≤ 122) = false := decide_eq_false c9; clear c9
     by_cases c10 : (wrap32 (a0)) ≥ 65
     · rw [if_pos c10] at H
       have c10b0 : decide (65 ≤ (wrap32 (a0))) = true := decide_eq_true c10; clear c10
       have H' := Aside0.mk H
       clear H
       go_wp2
       go_meet
       case rel => exact ⟨_, (decide ((wrap32 (a0)) ≤ 90)), zI, H', ⟨by have := HJ1.out; first | omega | exact Nat.le_refl _⟩, by repeat (first | exact Drawn0.refl _ | apply Drawn0.step)⟩
     rw [if_neg c10] at H
     have c10b0 : decide (65 ≤ (wrap32 (a0))) = false := decide_eq_false c10; clear c10
     have H' := Aside0.mk H
     clear H
     go_wp2
     go_meet
     case rel => exact ⟨_, (false), zI, H', ⟨by have := HJ1.out; first | omega | exact Nat.le_refl _⟩, by repeat (first | exact Drawn0.refl _ | apply Drawn0.step)⟩
   rw [if_neg c8] at H
   have c8b0 : decide (97 ≤ (wrap32 (a0))) = false := decide_eq_false c8; clear c8
   (first | rw [c8b0] | (simp only [i64_w, i32_w]; rw [c8b0]) | skip)
   by_cases c11 : (wrap32 (a0)) ≥ 65
   · rw [if_pos c11] at H
     have c11b0 : decide (65 ≤ (wrap32 (a0))) = true := decide_eq_true c11; clear c11
     have H' := Aside0.mk H
     clear H
     go_wp2
     go_meet
     case rel => exact ⟨_, (decide ((wrap32 (a0)) ≤ 90)), zI, H', ⟨by have := HJ1.out; first | omega | exact Nat.le_refl _⟩, by repeat (first | exact Drawn0.refl _ | apply Drawn0.step)⟩
   rw [if_neg c11] at H
   have c11b0 : decide (65 ≤ (wrap32 (a0))) = false := decide_eq_false c11; clear c11
   have H' := Aside0.mk H
   clear H
   go_wp2
   go_meet
   case rel => exact ⟨_, (false), zI, H', ⟨by have := HJ1.out; first | omega | exact Nat.le_refl _⟩, by repeat (first | exact Drawn0.refl _ | apply Drawn0.step)⟩
  case rest =>
   clear HC7
   try clear c6
   obtain ⟨kq, x21_6, rfl, HA, HJ6, ⟨mc6, rfl⟩⟩ := hcut
   rcases kq with _ | kj6
   · exact absurd HA.out (by simp [lexer_class.j1])
   have H := HA.out
   clear HA
   simp only [lexer_class.j1] at H
   by_cases c12 : x21_6 = true
   · subst c12
     rw [if_pos rfl] at H
     obtain rfl := Option.some.inj H
     go_wp2
     go_ret
     exact ⟨by first | rfl | (simp; done) | (simp [*]; done), by repeat (first | exact Drawn0.refl _ | apply Drawn0.step)⟩
   replace c12 := Bool.eq_false_iff.mpr c12
   subst c12; rw [if_neg zF] at H; have HC13 := Aside0.mk H; clear H
   go_upto_region 6 with (fail)
   go_cut [36] (fun v36 wc => ∃ (kq : Nat) (x36_12 : Bool), v36 = .bool x36_12 ∧ Aside0 (lexer_class.j2 kq (wrap32 (a0)) x36_12 = some r) ∧ Aside0 (kq ≤ kj6) ∧ Drawn0 w wc)
   case first =>
    have H := HC13.out
    clear HC13
    by_cases c14 : (wrap32 (a0)) ≥ 48
    · rw [if_pos c14] at H
      have c14b0 : decide (48 ≤ (wrap32 (a0))) = true := decide_eq_true c14; clear c14
      (first | rw [c14b0] | (simp only [i64_w, i32_w]; rw [c14b0]) | skip)
      have H' := Aside0.mk H
      clear H
      go_wp2
      go_meet
      case rel => exact ⟨_, (decide ((wrap32 (a0)) ≤ 57)), zI, H', ⟨by have := HJ1.out; have := HJ6.out; first | omega | exact Nat.le_refl _⟩, by repeat (first | exact Drawn0.refl _ | apply Drawn0.step)⟩
    rw [if_neg c14] at H
    have c14b0 : decide (48 ≤ (wrap32 (a0))) = false := decide_eq_false c14; clear c14
    (first | rw [c14b0] | (simp only [i64_w, i32_w]; rw [c14b0]) | skip)
    have H' := Aside0.mk H
    clear H
    go_wp2
    go_meet
    case rel => exact ⟨_, (false), zI, H', ⟨by have := HJ1.out; have := HJ6.out; first | omega | exact Nat.le_refl _⟩, by repeat (first | exact Drawn0.refl _ | apply Drawn0.step)⟩
   case rest =>
    clear HC13
    try clear c12
    obtain ⟨kq, x36_12, rfl, HA, HJ12, ⟨mc12, rfl⟩⟩ := hcut
    rcases kq with _ | kj12
    · exact absurd HA.out (by simp [lexer_class.j2])
    have H := HA.out
    clear HA
    simp only [lexer_class.j2] at H
    by_cases c15 : x36_12 = true
    · subst c15
      rw [if_pos rfl] at H
      obtain rfl := Option.some.inj H
      go_wp2
      go_ret
      exact ⟨by first | rfl | (simp; done) | (simp [*]; done), by repeat (first | exact Drawn0.refl _ | apply Drawn0.step)⟩
    replace c15 := Bool.eq_false_iff.mpr c15
    subst c15; rw [if_neg zF] at H
    by_cases c16 : (wrap32 (a0)) = 95
    · rw [if_pos c16] at H
      have c16b0 : ((wrap32 (a0)) == 95) = true := beq_iff_eq.mpr c16; have c16b1 : ((wrap32 (a0)) != 95) = false := bne_eq_false_iff_eq.mpr c16; clear c16
      obtain rfl := Option.some.inj H
      go_wp2
      go_ret
      exact ⟨by first | rfl | (simp; done) | (simp [*]; done), by repeat (first | exact Drawn0.refl _ | apply Drawn0.step)⟩
    rw [if_neg c16] at H
    have c16b0 : ((wrap32 (a0)) == 95) = false := beq_eq_false_iff_ne.mpr c16
    have c16b1 : ((wrap32 (a0)) != 95) = true := bne_iff_ne.mpr c16
    by_cases c17 : (wrap32 (a0)) = 46
    · rw [if_pos c17] at H
      have c17b0 : ((wrap32 (a0)) == 46) = true := beq_iff_eq.mpr c17; have c17b1 : ((wrap32 (a0)) != 46) = false := bne_eq_false_iff_eq.mpr c17; clear c17
      obtain rfl := Option.some.inj H
      go_wp2
      go_ret
      exact ⟨by first | rfl | (simp; done) | (simp [*]; done), by repeat (first | exact Drawn0.refl _ | apply Drawn0.step)⟩
    rw [if_neg c17] at H
    have c17b0 : ((wrap32 (a0)) == 46) = false := beq_eq_false_iff_ne.mpr c17
    have c17b1 : ((wrap32 (a0)) != 46) = true := bne_iff_ne.mpr c17
    by_cases c18 : (wrap32 (a0)) = 58
    · rw [if_pos c18] at H
      have c18b0 : ((wrap32 (a0)) == 58) = true := beq_iff_eq.mpr c18; have c18b1 : ((wrap32 (a0)) != 58) = false := bne_eq_false_iff_eq.mpr c18; clear c18
      obtain rfl := Option.some.inj H
      go_wp2
      go_ret
      exact ⟨by first | rfl | (simp; done) | (simp [*]; done), by repeat (first | exact Drawn0.refl _ | apply Drawn0.step)⟩
    rw [if_neg c18] at H
    have c18b0 : ((wrap32 (a0)) == 58) = false := beq_eq_false_iff_ne.mpr c18
    have c18b1 : ((wrap32 (a0)) != 58) = true := bne_iff_ne.mpr c18
    by_cases c19 : (wrap32 (a0)) = 47
    · rw [if_pos c19] at H
      have c19b0 : ((wrap32 (a0)) == 47) = true := beq_iff_eq.mpr c19; have c19b1 : ((wrap32 (a0)) != 47) = false := bne_eq_false_iff_eq.mpr c19; clear c19
      obtain rfl := Option.some.inj H
      go_wp2
      go_ret
      exact ⟨by first | rfl | (simp; done) | (simp [*]; done), by repeat (first | exact Drawn0.refl _ | apply Drawn0.step)⟩
    rw [if_neg c19] at H
    have c19b0 : ((wrap32 (a0)) == 47) = false := beq_eq_false_iff_ne.mpr c19
    have c19b1 : ((wrap32 (a0)) != 47) = true := bne_iff_ne.mpr c19
    obtain rfl := Option.some.inj H
    go_wp2
    go_ret
    exact ⟨by first | rfl | (simp; done) | (simp [*]; done), by repeat (first | exact Drawn0.refl _ | apply Drawn0.step)⟩
def lexer_inName.f (k : Nat) (a0 : Int) : Option (Bool) := if a0 = 95 then (some true) else ((lexer_class.f k a0).bind fun t103 => (if t103 = 2 then (some true) else ((lexer_class.f k a0).bind fun t104 => (some (t104 == 3)))))
theorem lexer_inName.mono : ∀ a0 k, LeO (lexer_inName.f k a0) (lexer_inName.f (k + 1) a0) := by
  intro a0 k
  unfold lexer_inName.f
  repeat' first
      | (with_reducible exact lexer_class.mono _ _)
      | (with_reducible exact LeO.refl _)
      | (with_reducible exact LeO.none _)
      | (with_reducible refine LeO.ite ?_ ?_)
      | (with_reducible refine LeO.bind ?_ (fun _ => ?_))
theorem lexer_inName.calls (k : Nat) (a0 : Int) (r : Bool) (w : World) (h : lexer_inName.f k a0 = some r) :
 Calls Tryz.prog 90 #[.int .u8 a0] w fun e w' => e = .returned (.bool r) ∧ Drawn0 w w' := by
 unfold lexer_inName.f at h; have H := h
 clear h
 by_cases c2 : a0 = 95
 · rw [if_pos c2] at H
   have c2b0 : (a0 == 95) = true := beq_iff_eq.mpr c2; have c2b1 : (a0 != 95) = false := bne_eq_false_iff_eq.mpr c2; clear c2
   obtain rfl := Option.some.inj H
   go_enter Tryz.func90, Tryz.ntmps90
   go_wp2
   go_ret
   exact ⟨by first | rfl | (simp; done) | (simp [*]; done), by repeat (first | exact Drawn0.refl _ | apply Drawn0.step)⟩
 rw [if_neg c2] at H
 have c2b0 : (a0 == 95) = false := beq_eq_false_iff_ne.mpr c2
 have c2b1 : (a0 != 95) = true := bne_iff_ne.mpr c2
 replace H := Option.bind_eq_some_iff.mp H
 obtain ⟨t103, A30, H⟩ := H
 try dsimp only at H
 have A3 := Aside0.mk A30; clear A30
 by_cases c4 : t103 = 2
 · rw [if_pos c4] at H
   have c4b0 : (t103 == 2) = true := beq_iff_eq.mpr c4; have c4b1 : (t103 != 2) = false := bne_eq_false_iff_eq.mpr c4; clear c4
   obtain rfl := Option.some.inj H
   go_enter Tryz.func90, Tryz.ntmps90
   go_wp2_with (first | (go_at_call 88; (with_reducible refine (lexer_class.calls k a0 t103 _ A3.out).mono ?_); rintro e w' ⟨rfl, ⟨nd, rfl⟩⟩))
   go_ret
   exact ⟨by first | rfl | (simp; done) | (simp [*]; done), by repeat (first | exact Drawn0.refl _ | apply Drawn0.step)⟩
 rw [if_neg c4] at H
 have c4b0 : (t103 == 2) = false := beq_eq_false_iff_ne.mpr c4
 have c4b1 : (t103 != 2) = true := bne_iff_ne.mpr c4
 replace H := Option.bind_eq_some_iff.mp H
 obtain ⟨t104, A50, H⟩ := H
 try dsimp only at H
 have A5 := Aside0.mk A50
 (try (have E_ := Option.some.inj (A3.out.symm.trans A5.out); subst E_))
 clear A50
 obtain rfl := Option.some.inj H
 go_enter Tryz.func90, Tryz.ntmps90
 go_wp2_with (first | (go_at_call 88; (with_reducible refine (lexer_class.calls k a0 t103 _ A3.out).mono ?_); rintro e w' ⟨rfl, ⟨nd, rfl⟩⟩) | (go_at_call 88; (with_reducible refine (lexer_class.calls k a0 t104 _ A5.out).mono ?_); rintro e w' ⟨rfl, ⟨nd, rfl⟩⟩))
 go_ret
 exact ⟨by first | rfl | (simp; done) | (simp [*]; done), by repeat (first | exact Drawn0.refl _ | apply Drawn0.step)⟩
def lexer_while_at_lexer_inName.l0 : Nat → ByteArray → Int → Option (Int)
  | 0, _, _ => none
  | k + 1, x0, x1 => if x1 < (x0.size : Int) then (if 0 ≤ x1 then ((lexer_inName.f k (bt x0 x1)).bind fun t105 => (if t105 = true then (lexer_while_at_lexer_inName.l0 k x0 (wrap64 (x1 + 1))) else (some x1))) else (none)) else (some x1)
def lexer_while_at_lexer_inName.f (k : Nat) (a0 : ByteArray) (a1 : Int)  : Option (Int) := lexer_while_at_lexer_inName.l0 k a0 a1
theorem lexer_while_at_lexer_inName.mono_l : ∀ k, (∀ y0 y1, LeO (lexer_while_at_lexer_inName.l0 k y0 y1) (lexer_while_at_lexer_inName.l0 (k + 1) y0 y1))
  | 0 => fun _ _ r h => by simp [lexer_while_at_lexer_inName.l0] at h
  | k + 1 => by
    have ih0 := lexer_while_at_lexer_inName.mono_l k
    · intro y0 y1
      unfold lexer_while_at_lexer_inName.l0
      repeat' first
      | (with_reducible exact ih0 _ _)
      | (with_reducible exact lexer_inName.mono _ _)
      | (with_reducible exact LeO.refl _)
      | (with_reducible exact LeO.none _)
      | (with_reducible refine LeO.ite ?_ ?_)
      | (with_reducible refine LeO.bind ?_ (fun _ => ?_))
theorem lexer_while_at_lexer_inName.mono : ∀ a0 a1 k, LeO (lexer_while_at_lexer_inName.f k a0 a1) (lexer_while_at_lexer_inName.f (k + 1) a0 a1) := by
  intro a0 a1 k
  have ih0 := lexer_while_at_lexer_inName.mono_l k
  unfold lexer_while_at_lexer_inName.f
  repeat' first
      | (with_reducible exact ih0 _ _)
      | (with_reducible exact lexer_inName.mono _ _)
      | (with_reducible exact LeO.refl _)
      | (with_reducible exact LeO.none _)
      | (with_reducible refine LeO.ite ?_ ?_)
      | (with_reducible refine LeO.bind ?_ (fun _ => ?_))
theorem lexer_while_at_lexer_inName.calls (k : Nat) (a0 : ByteArray) (a1 : Int)  (r : Int) (w : World) (h : lexer_while_at_lexer_inName.f k a0 a1 = some r) :
 Calls Tryz.prog 89 #[.string a0, .int .i64 a1, (.func (.func 90) #[] #[])] w fun e w' => e = .returned (.int .i64 r) ∧ Drawn0 w w' := by
 unfold lexer_while_at_lexer_inName.f at h; have H := h
 clear h
 have H' := Aside0.mk H
 clear H
 go_enter Tryz.func89, Tryz.ntmps89
 go_wp2
 go_loopg [1] k (fun kq v1 w' => ∃ (x1_1 : Int), v1 = .int .i64 x1_1 ∧ Aside0 (lexer_while_at_lexer_inName.l0 kq a0 x1_1 = some r) ∧ Aside0 (kq ≤ k) ∧ Drawn0 w w')
 case atStart => exact ⟨(a1), zI, H', ⟨Nat.le_refl _⟩, by repeat (first | exact Drawn0.refl _ | apply Drawn0.step)⟩
 case round =>
  clear H'
  obtain ⟨x1_1, rfl, HA, HK1, ⟨m1, rfl⟩⟩ := hrel
  rcases gk with _ | k1
  · exact absurd HA.out (by simp [lexer_while_at_lexer_inName.l0])
  have H := HA.out
  clear HA
  simp only [lexer_while_at_lexer_inName.l0] at H
  by_cases c4 : x1_1 < (a0.size : Int)
  rotate_left
  · rw [if_neg c4] at H
    have c4b0 : decide (x1_1 < (a0.size : Int)) = false := decide_eq_false c4; clear c4
    obtain rfl := Option.some.inj H
    go_wp2
    go_ret
    exact ⟨by first | rfl | (simp; done) | (simp [*]; done), by repeat (first | exact Drawn0.refl _ | apply Drawn0.step)⟩
  rw [if_pos c4] at H
  have c4b0 : decide (x1_1 < (a0.size : Int)) = true := decide_eq_true c4; clear c4
  by_cases c5 : 0 ≤ x1_1
  rotate_left
  · rw [if_neg c5] at H
    exact absurd H (by simp)
  rw [if_pos c5] at H
  have c5b0 : decide (0 ≤ x1_1) = true := decide_eq_true c5; clear c5
  replace H := Option.bind_eq_some_iff.mp H
  obtain ⟨t105, A70, H⟩ := H
  try dsimp only at H
  have A7 := Aside0.mk A70; clear A70
  by_cases c8 : t105 = true
  · subst c8
    rw [if_pos rfl] at H
    have H' := Aside0.mk H
    clear H
    have p6 : 0 ≤ (x1_1 : Int) := za
    have q6 : x1_1 < (a0.size : Int) := za
    have hx6 := bt_at a0 x1_1
    replace p6 := eq_true p6
    replace q6 := eq_true q6
    go_wp2_with (first | (go_at_call 90; (with_reducible refine (lexer_inName.calls k1 (bt a0 x1_1) true _ A7.out).mono ?_); rintro e w' ⟨rfl, ⟨nd, rfl⟩⟩))
    go_roundg k1
    case measure => have := HK1.out; omega
    case rel => exact ⟨(wrap64 (x1_1 + 1)), zI, H', ⟨by have := HK1.out; omega⟩, by repeat (first | exact Drawn0.refl _ | apply Drawn0.step)⟩
  replace c8 := Bool.eq_false_iff.mpr c8
  subst c8; rw [if_neg zF] at H
  obtain rfl := Option.some.inj H
  have p6 : 0 ≤ (x1_1 : Int) := za
  have q6 : x1_1 < (a0.size : Int) := za
  have hx6 := bt_at a0 x1_1
  replace p6 := eq_true p6
  replace q6 := eq_true q6
  go_wp2_with (first | (go_at_call 90; (with_reducible refine (lexer_inName.calls k1 (bt a0 x1_1) false _ A7.out).mono ?_); rintro e w' ⟨rfl, ⟨nd, rfl⟩⟩))
  go_ret
  exact ⟨by first | rfl | (simp; done) | (simp [*]; done), by repeat (first | exact Drawn0.refl _ | apply Drawn0.step)⟩
def lexer_IsName.f (k : Nat) (a0 : ByteArray) : Option (Bool) := if a0.toList = ([] : List UInt8) then (some false) else (if (a0.size : Int) ≤ 32 then (if 0 < (a0.size : Int) then ((lexer_class.f k (bt a0 0)).bind fun t106 => (if t106 = 2 then ((lexer_while_at_lexer_inName.f k a0 0).bind fun t107 => (some (t107 == (a0.size : Int)))) else (some false))) else (none)) else (some false))
theorem lexer_IsName.mono : ∀ a0 k, LeO (lexer_IsName.f k a0) (lexer_IsName.f (k + 1) a0) := by
  intro a0 k
  unfold lexer_IsName.f
  repeat' first
      | (with_reducible exact lexer_class.mono _ _)
      | (with_reducible exact lexer_while_at_lexer_inName.mono _ _ _)
      | (with_reducible exact LeO.refl _)
      | (with_reducible exact LeO.none _)
      | (with_reducible refine LeO.ite ?_ ?_)
      | (with_reducible refine LeO.bind ?_ (fun _ => ?_))
theorem lexer_IsName.calls (k : Nat) (a0 : ByteArray) (r : Bool) (w : World) (h : lexer_IsName.f k a0 = some r) :
 Calls Tryz.prog 55 #[.string a0] w fun e w' => e = .returned (.bool r) ∧ Drawn0 w w' := by
 unfold lexer_IsName.f at h; have H := h
 clear h
 by_cases c2 : a0.toList = ([] : List UInt8)
 · rw [if_pos c2] at H
   have c2b0 : (a0.toList == ([] : List UInt8)) = true := beq_iff_eq.mpr c2; have c2b1 : (a0.toList != ([] : List UInt8)) = false := bne_eq_false_iff_eq.mpr c2; clear c2
   obtain rfl := Option.some.inj H
   go_enter Tryz.func55, Tryz.ntmps55
   go_wp2
   go_ret
   exact ⟨by first | rfl | (simp; done) | (simp [*]; done), by repeat (first | exact Drawn0.refl _ | apply Drawn0.step)⟩
 rw [if_neg c2] at H
 have c2b0 : (a0.toList == ([] : List UInt8)) = false := beq_eq_false_iff_ne.mpr c2
 have c2b1 : (a0.toList != ([] : List UInt8)) = true := bne_iff_ne.mpr c2
 by_cases c3 : (a0.size : Int) ≤ 32
 rotate_left
 · rw [if_neg c3] at H
   have c3b0 : decide ((a0.size : Int) ≤ 32) = false := decide_eq_false c3
   have c3b1 : decide (a0.size ≤ 32) = false := decide_eq_false (by omega)
   clear c3
   obtain rfl := Option.some.inj H
   go_enter Tryz.func55, Tryz.ntmps55
   go_wp2
   go_ret
   exact ⟨by first | rfl | (simp; done) | (simp [*]; done), by repeat (first | exact Drawn0.refl _ | apply Drawn0.step)⟩
 rw [if_pos c3] at H; have c3b0 : decide ((a0.size : Int) ≤ 32) = true := decide_eq_true c3
 have c3b1 : decide (a0.size ≤ 32) = true := decide_eq_true (by omega)
 clear c3
 by_cases c4 : 0 < (a0.size : Int)
 rotate_left
 · rw [if_neg c4] at H
   exact absurd H (by simp)
 rw [if_pos c4] at H; have c4b0 : decide (0 < (a0.size : Int)) = true := decide_eq_true c4
 have c4b1 : decide (0 < a0.size) = true := decide_eq_true (by omega)
 clear c4
 replace H := Option.bind_eq_some_iff.mp H
 obtain ⟨t106, A60, H⟩ := H
 try dsimp only at H
 have A6 := Aside0.mk A60; clear A60
 by_cases c7 : t106 = 2
 · rw [if_pos c7] at H
   have c7b0 : (t106 == 2) = true := beq_iff_eq.mpr c7; have c7b1 : (t106 != 2) = false := bne_eq_false_iff_eq.mpr c7; clear c7
   replace H := Option.bind_eq_some_iff.mp H
   obtain ⟨t107, A80, H⟩ := H
   try dsimp only at H
   have A8 := Aside0.mk A80; clear A80
   obtain rfl := Option.some.inj H
   have p5 : 0 ≤ (0 : Int) := (by omega)
   have q5 : 0 < a0.size := (by have : (0 : Int) < (a0.size : Int) := za; omega)
   have hx5 : ∀ h : 0 < a0.size, ((a0[0]'h).toNat : Int) = bt a0 0 := bt_at a0 0
   clear p5
   have qi5 : (0 < (a0.size : Int)) = True := eq_true (of_decide_eq_true (by first | (with_reducible assumption) | assumption))
   replace q5 := eq_true q5
   go_enter Tryz.func55, Tryz.ntmps55
   go_wp2_with (first | (go_at_call 88; (with_reducible refine (lexer_class.calls k (bt a0 0) t106 _ A6.out).mono ?_); rintro e w' ⟨rfl, ⟨nd, rfl⟩⟩) | (go_at_call 89; (with_reducible refine (lexer_while_at_lexer_inName.calls k a0 0  t107 _ A8.out).mono ?_); rintro e w' ⟨rfl, ⟨nd, rfl⟩⟩))
   go_ret
   exact ⟨by first | rfl | (simp; done) | (simp [*]; done), by repeat (first | exact Drawn0.refl _ | apply Drawn0.step)⟩
 rw [if_neg c7] at H
 have c7b0 : (t106 == 2) = false := beq_eq_false_iff_ne.mpr c7
 have c7b1 : (t106 != 2) = true := bne_iff_ne.mpr c7
 obtain rfl := Option.some.inj H
 have p5 : 0 ≤ (0 : Int) := (by omega)
 have q5 : 0 < a0.size := (by have : (0 : Int) < (a0.size : Int) := za; omega)
 have hx5 : ∀ h : 0 < a0.size, ((a0[0]'h).toNat : Int) = bt a0 0 := bt_at a0 0
 clear p5
 have qi5 : (0 < (a0.size : Int)) = True := eq_true (of_decide_eq_true (by first | (with_reducible assumption) | assumption))
 replace q5 := eq_true q5
 go_enter Tryz.func55, Tryz.ntmps55
 go_wp2_with (first | (go_at_call 88; (with_reducible refine (lexer_class.calls k (bt a0 0) t106 _ A6.out).mono ?_); rintro e w' ⟨rfl, ⟨nd, rfl⟩⟩))
 go_ret
 exact ⟨by first | rfl | (simp; done) | (simp [*]; done), by repeat (first | exact Drawn0.refl _ | apply Drawn0.step)⟩
end Go.Proofs.YtnphnhkinjppjaaGreatDoor.Q
end

section
namespace Go.Proofs.YtnphnhkinjppjaaGreatDoor.Q
open Go.RowKit Go.Proofs.YtnphnhkinjppjaaGreatDoorW.PrintWords Go.Proofs.YtnphnhkinjppjaaGreatDoorW.PrintLast Go.Proofs.YtnphnhkinjppjaaGreatDoorW.PrintMore
attribute [local go_sem] max2_int min2_int max_two min_two max_three min_three max_four min_four
def r04_Letter.f (a0 : Int) : Option (Bool) := if a0 ≥ 97 then (if a0 ≤ 122 then (some true) else (if a0 ≥ 65 then (some (decide (a0 ≤ 90))) else (some false))) else (if a0 ≥ 65 then (some (decide (a0 ≤ 90))) else (some false))
def r04_Digit.f (a0 : Int) : Option (Bool) := if a0 ≥ 48 then (some (decide (a0 ≤ 57))) else (some false)
def r04_inName.f (a0 : Int) : Option (Bool) := (r04_Letter.f a0).bind fun t287 => (if t287 = true then (some true) else ((r04_Digit.f a0).bind fun t288 => (if t288 = true then (some true) else (some (a0 == 95)))))
end Go.Proofs.YtnphnhkinjppjaaGreatDoor.Q
end

section
namespace Go.Proofs.YtnphnhkinjppjaaGreatDoor.Q
open Go.RowKit Go.Proofs.YtnphnhkinjppjaaGreatDoorW.PrintWords Go.Proofs.YtnphnhkinjppjaaGreatDoorW.PrintLast Go.Proofs.YtnphnhkinjppjaaGreatDoorW.PrintMore
attribute [local go_sem] max2_int min2_int max_two min_two max_three min_three max_four min_four
mutual
def r04_IsName.j0 : Nat → ByteArray → Bool → Option (Bool)
  | 0, _, _ => none
  | k + 1, x0, x16 => if x16 = true then (some false) else (r04_IsName.l0 k x0 0)
def r04_IsName.l0 : Nat → ByteArray → Int → Option (Bool)
  | 0, _, _ => none
  | k + 1, x0, x3 => if x3 < (x0.size : Int) then (if 0 ≤ x3 then ((r04_inName.f (bt x0 x3)).bind fun t290 => (if t290 = true then (r04_IsName.l0 k x0 (wrap64 (x3 + 1))) else (some false))) else (none)) else (some true)
end
def r04_IsName.f (k : Nat) (a0 : ByteArray) : Option (Bool) := if a0.toList = ([] : List UInt8) then (r04_IsName.j0 k a0 true) else (if (a0.size : Int) > 32 then (r04_IsName.j0 k a0 true) else (if 0 < (a0.size : Int) then ((r04_Letter.f (bt a0 0)).bind fun t289 => (r04_IsName.j0 k a0 (!t289))) else (none)))
theorem r04_IsName.mono_l : ∀ k, (∀ y0 y1, LeO (r04_IsName.j0 k y0 y1) (r04_IsName.j0 (k + 1) y0 y1)) ∧ (∀ y0 y1, LeO (r04_IsName.l0 k y0 y1) (r04_IsName.l0 (k + 1) y0 y1))
  | 0 => ⟨fun _ _ r h => by simp [r04_IsName.j0] at h, fun _ _ r h => by simp [r04_IsName.l0] at h⟩
  | k + 1 => by
    obtain ⟨ih0, ih1⟩ := r04_IsName.mono_l k
    refine ⟨?_, ?_⟩
    · intro y0 y1
      unfold r04_IsName.j0
      repeat' first
      | (with_reducible exact ih0 _ _)
      | (with_reducible exact ih1 _ _)
      | (with_reducible exact LeO.refl _)
      | (with_reducible exact LeO.none _)
      | (with_reducible refine LeO.ite ?_ ?_)
      | (with_reducible refine LeO.bind ?_ (fun _ => ?_))
    · intro y0 y1
      unfold r04_IsName.l0
      repeat' first
      | (with_reducible exact ih0 _ _)
      | (with_reducible exact ih1 _ _)
      | (with_reducible exact LeO.refl _)
      | (with_reducible exact LeO.none _)
      | (with_reducible refine LeO.ite ?_ ?_)
      | (with_reducible refine LeO.bind ?_ (fun _ => ?_))
theorem r04_IsName.mono : ∀ a0 k, LeO (r04_IsName.f k a0) (r04_IsName.f (k + 1) a0) := by
  intro a0 k
  obtain ⟨ih0, ih1⟩ := r04_IsName.mono_l k
  unfold r04_IsName.f
  repeat' first
      | (with_reducible exact ih0 _ _)
      | (with_reducible exact ih1 _ _)
      | (with_reducible exact LeO.refl _)
      | (with_reducible exact LeO.none _)
      | (with_reducible refine LeO.ite ?_ ?_)
      | (with_reducible refine LeO.bind ?_ (fun _ => ?_))
end Go.Proofs.YtnphnhkinjppjaaGreatDoor.Q
end

section
namespace Go.Proofs.YtnphnhkinjppjaaGreatDoor.Q
open Go.RowKit Go.Proofs.YtnphnhkinjppjaaGreatDoorW.PrintWords Go.Proofs.YtnphnhkinjppjaaGreatDoorW.PrintLast Go.Proofs.YtnphnhkinjppjaaGreatDoorW.PrintMore
def letC (n : Int) : Bool := (decide (97 ≤ n) && decide (n ≤ 122)) || (decide (65 ≤ n) && decide (n ≤ 90))
def digC (n : Int) : Bool := decide (48 ≤ n) && decide (n ≤ 57)
def namC (n : Int) : Bool := letC n || digC n || n == 95
def spcC (n : Int) : Bool := n == 32 || n == 9 || n == 10 || n == 13
def clsC (n : Int) : Int := if spcC n then 1 else if letC n then 2 else if digC n then 3 else if (n == 95 || n == 46 || n == 58 || n == 47) then 4 else 0
theorem byte_all {p : Int → Bool} (h : ((List.range 256).all fun c => p (c : Int)) = true) {n : Int} (h0 : 0 ≤ n) (h1 : n ≤ 255) : p n = true := by
  rw [List.all_eq_true] at h
  have := h n.toNat (List.mem_range.2 (by omega))
  rwa [Int.toNat_of_nonneg h0] at this
theorem cls_tab : ((List.range 256).all fun c => lexer_class.f 4 (c : Int) == some (clsC (c : Int))) = true := by kernel_rfl
theorem cls_ev {n : Int} (h0 : 0 ≤ n) (h1 : n ≤ 255) : Ev (fun k => lexer_class.f k n) (clsC n) :=
  Ev.of (lexer_class.mono n) (beq_iff_eq.1 (byte_all (p := fun n => lexer_class.f 4 n == some (clsC n)) cls_tab h0 h1))
theorem nam_tab : ((List.range 256).all fun c => lexer_inName.f 4 (c : Int) == some (namC (c : Int))) = true := by kernel_rfl
theorem nam_ev {n : Int} (h0 : 0 ≤ n) (h1 : n ≤ 255) : Ev (fun k => lexer_inName.f k n) (namC n) :=
  Ev.of (lexer_inName.mono n) (beq_iff_eq.1 (byte_all (p := fun n => lexer_inName.f 4 n == some (namC n)) nam_tab h0 h1))
theorem clet_tab : ((List.range 256).all fun c => decide (clsC (c : Int) = 2) == letC (c : Int)) = true := by kernel_rfl
theorem clet {n : Int} (h0 : 0 ≤ n) (h1 : n ≤ 255) : clsC n = 2 ↔ letC n = true := by
  have := beq_iff_eq.1 (byte_all (p := fun n => decide (clsC n = 2) == letC n) clet_tab h0 h1)
  rw [← this, decide_eq_true_eq]
theorem btLo (s : ByteArray) (i : Int) : 0 ≤ bt s i := (bt_range s i).1
theorem btHi (s : ByteArray) (i : Int) : bt s i ≤ 255 := (bt_range s i).2
def isC (p : Int → Bool) (c : UInt8) : Bool := p ((c.toNat : Nat) : Int)
def runC (p : Int → Bool) : List UInt8 → Nat
  | [] => 0
  | c :: l => if isC p c = true then runC p l + 1 else 0
theorem runC_le (p : Int → Bool) : ∀ l, runC p l ≤ l.length
  | [] => Nat.le_refl _
  | c :: l => by
    have := runC_le p l
    rw [runC, List.length_cons]
    split <;> omega
theorem runC_all (p : Int → Bool) : ∀ l, runC p l = l.length ↔ l.all (isC p) = true
  | [] => by simp [runC]
  | c :: l => by
    have := runC_all p l
    have h2 := runC_le p l
    rw [runC, List.length_cons, List.all_cons]
    by_cases h : isC p c = true
    · rw [if_pos h, h, Bool.true_and, ← this]; omega
    · rw [if_neg h, Bool.not_eq_true] at *
      rw [h, Bool.false_and]
      simp
theorem lx_up {i : Nat} (h : i < 1000000000) : wrap64 ((i : Int) + 1) = ((i + 1 : Nat) : Int) := by rw [wid (by omega) (by omega)]; omega
theorem whileN (s : ByteArray) (hs : s.data.toList.length ≤ 1000000) : ∀ (d i : Nat), s.data.toList.length - i = d → i ≤ s.data.toList.length → Ev (fun k => lexer_while_at_lexer_inName.l0 k s (i : Int)) ((i + runC namC (s.data.toList.drop i) : Nat) : Int)
  | 0, i, hd, hi => by
    rw [List.drop_of_length_le (by omega), runC]
    refine Ev.step (f := fun _ => some (i : Int)) (fun k => ?_) (Ev.now _)
    rw [lexer_while_at_lexer_inName.l0, size_list, if_neg (by omega)]
  | d + 1, i, hd, hi => by
    have h : i < s.data.toList.length := by omega
    rw [List.drop_eq_getElem_cons h, runC]
    have ih := whileN s hs d (i + 1) (by omega) (by omega)
    have e := bt_list s i h
    refine Ev.step (f := fun k => (lexer_inName.f k (bt s (i : Int))).bind fun t => if t = true then lexer_while_at_lexer_inName.l0 k s ((i + 1 : Nat) : Int) else some (i : Int)) (fun k => ?_) (Ev.bind (nam_ev (btLo _ _) (btHi _ _)) ?_)
    · rw [lexer_while_at_lexer_inName.l0, size_list, if_pos (by omega), if_pos (by omega), lx_up (by omega)]
    · rw [e]
      by_cases hc : namC (((s.data.toList[i]).toNat : Nat) : Int) = true
      · rw [if_pos (show isC namC (s.data.toList[i]) = true from hc)]
        refine Ev.congr (fun k => if_pos hc) ?_
        rw [show i + (runC namC (s.data.toList.drop (i + 1)) + 1) = i + 1 + runC namC (s.data.toList.drop (i + 1)) from by omega]
        exact ih
      · rw [if_neg (show ¬ isC namC (s.data.toList[i]) = true from hc)]
        exact Ev.congr (fun k => if_neg hc) (Ev.now _)
def nameB (l : List UInt8) : Bool := !l.isEmpty && decide (l.length ≤ 32) && (l.head?.any (isC letC)) && l.all (isC namC)
theorem isName_ev (s : ByteArray) : Ev (fun k => lexer_IsName.f k s) (nameB s.data.toList) := by
  unfold lexer_IsName.f
  have hsz := size_list s
  have htl : s.toList = s.data.toList := ByteArray.toList_eq s
  by_cases h0 : s.data.toList = []
  · refine Ev.congr (fun k => if_pos (htl.trans h0)) ?_
    rw [h0]
    exact Ev.now _
  · refine Ev.congr (fun k => if_neg (fun e => h0 (htl.symm.trans e))) ?_
    have hp : 0 < s.data.toList.length := List.length_pos_iff.2 h0
    by_cases h1 : s.data.toList.length ≤ 32
    · refine Ev.congr (fun k => if_pos (by omega)) (Ev.congr (fun k => if_pos (by omega)) (Ev.bind (cls_ev (btLo _ _) (btHi _ _)) ?_))
      have e := bt_list s 0 hp
      rw [show ((0 : Nat) : Int) = 0 from rfl] at e
      have hh : s.data.toList.head? = some (s.data.toList[0]) := by rw [List.head?_eq_getElem?, List.getElem?_eq_getElem hp]
      have hn : nameB s.data.toList = (isC letC (s.data.toList[0]) && s.data.toList.all (isC namC)) := by
        unfold nameB
        rw [hh, decide_eq_true h1, show s.data.toList.isEmpty = false from by simpa using h0]
        simp
      rw [hn]
      by_cases h2 : clsC (bt s 0) = 2
      · have h3 : isC letC (s.data.toList[0]) = true := by
          unfold isC
          rw [← e]
          exact (clet (btLo _ _) (btHi _ _)).1 h2
        rw [h3, Bool.true_and]
        have hw := whileN s (by omega) _ 0 rfl (by omega)
        refine Ev.congr (fun k => if_pos h2) (Ev.bind hw ?_)
        rw [show (((0 + runC namC (s.data.toList.drop 0) : Nat) : Int) == (s.size : Int)) = s.data.toList.all (isC namC) from ?_]
        · exact Ev.now _
        · rw [Bool.eq_iff_iff, beq_iff_eq, ← runC_all, List.drop_zero, hsz]
          omega
      · have h3 : isC letC (s.data.toList[0]) = false := by
          rw [← Bool.not_eq_true]
          intro h
          unfold isC at h
          rw [← e] at h
          exact h2 ((clet (btLo _ _) (btHi _ _)).2 h)
        rw [h3, Bool.false_and]
        exact Ev.congr (fun k => if_neg h2) (Ev.now _)
    · refine Ev.congr (fun k => if_neg (by omega)) ?_
      rw [show nameB s.data.toList = false from by unfold nameB; rw [decide_eq_false h1]; simp]
      exact Ev.now _
end Go.Proofs.YtnphnhkinjppjaaGreatDoor.Q
end

section
set_option maxHeartbeats 8000000
set_option maxRecDepth 100000
namespace Go.Proofs.YtnphnhkinjppjaaGreatDoor.Q
open Go.RowKit Go.Proofs.YtnphnhkinjppjaaGreatDoorW.PrintWords Go.Proofs.YtnphnhkinjppjaaGreatDoorW.PrintLast Go.Proofs.YtnphnhkinjppjaaGreatDoorW.PrintMore
attribute [local go_sem] max2_int min2_int max_two min_two max_three min_three max_four min_four
def address_FormatPrefix.f (a0_0 : Bool) (a0_1 : Int) (a0_2 : Int) (a0_3 : Int) : Option (ByteArray) := (address_Format.f a0_0 a0_1 a0_2).bind fun t134 => (if t134.size + 1 ≤ 9223372036854775807 then ((strconv_Itoa.f a0_3).bind fun t135 => (if (t134 ++ (⟨#[47]⟩ : ByteArray)).size + t135.size ≤ 9223372036854775807 then (some ((t134 ++ (⟨#[47]⟩ : ByteArray)) ++ t135)) else (none))) else (none))
def address_FormatPrefix.T1 : Bool × List (List Nat × List Nat) := (true, [([], []), ([0], [0]), ([1], [1]), ([2], [2]), ([], []), ([4], [4]), ([5, 2], [5]), ([3, 6], [3, 6]), ([7, 6, 0, 1, 2, 3, 4, 5, 6, 7], [7])])
def address_FormatPrefix.B1 : List Nat := [0, 1, 3, 7, 0, 16, 55, 127, 255]
theorem address_FormatPrefix.tab1 : rtab .any (opsOf Tryz.f39 1) = address_FormatPrefix.T1 := by kernel_rfl
theorem address_FormatPrefix.bits1 : waitsOk address_FormatPrefix.T1.2 address_FormatPrefix.B1 = true := by kernel_rfl
theorem address_FormatPrefix.calls (a0_0 : Bool) (a0_1 : Int) (a0_2 : Int) (a0_3 : Int) (r : ByteArray) (w : World) (h : address_FormatPrefix.f a0_0 a0_1 a0_2 a0_3 = some r) (hW_ : WOK w) :
 Calls Tryz.prog 39 #[.agg #[.bool a0_0, .int .u64 a0_1, .int .u64 a0_2, .int .i64 a0_3]] w fun e w' => e = .returned (.string r) ∧ Below w.heap.size w w' := by
 have hu33 := Tryz.underlying33
 have hu31 := Tryz.underlying31
 have HB := Aside0.mk (Below.refl w.heap.size w)
 unfold address_FormatPrefix.f at h; have H := h
 clear h
 replace H := Option.bind_eq_some_iff.mp H
 obtain ⟨t134, A20, H⟩ := H
 try dsimp only at H
 have A2 := Aside0.mk A20; clear A20
 by_cases c3 : t134.size + 1 ≤ 9223372036854775807
 rotate_left
 · rw [if_neg c3] at H
   exact absurd H (by simp)
 rw [if_pos c3] at H
 have c3b0 := eq_true c3
 have c3b1 : decide (t134.size + 1 ≤ 9223372036854775807) = true := decide_eq_true c3
 try have c3b2 : (9223372036854775807 < t134.size + 1) = False := eq_false (Nat.not_lt.2 c3)
 replace H := Option.bind_eq_some_iff.mp H
 obtain ⟨t135, A40, H⟩ := H
 try dsimp only at H
 have A4 := Aside0.mk A40; clear A40
 by_cases c5 : (t134 ++ (⟨#[47]⟩ : ByteArray)).size + t135.size ≤ 9223372036854775807
 rotate_left
 · rw [if_neg c5] at H
   exact absurd H (by simp)
 rw [if_pos c5] at H
 have c5b0 := eq_true c5
 have c5b8 : t134.size + 1 + t135.size ≤ 9223372036854775807 := by have q_ := c5; simp only [ByteArray.size_append] at q_; first | exact q_ | (rw [Nat.add_assoc]; exact q_) | (simp only [Nat.add_assoc] at q_ ⊢; exact q_)
 have c5b7 : (9223372036854775807 < t134.size + 1 + t135.size) = False := eq_false (Nat.not_lt.2 c5b8)
 replace c5b8 := eq_true c5b8
 have c5b1 : decide ((t134 ++ (⟨#[47]⟩ : ByteArray)).size + t135.size ≤ 9223372036854775807) = true := decide_eq_true c5
 try have c5b2 : (9223372036854775807 < (t134 ++ (⟨#[47]⟩ : ByteArray)).size + t135.size) = False := eq_false (Nat.not_lt.2 c5)
 obtain rfl := Option.some.inj H
 go_enter Tryz.func39, Tryz.ntmps39
 try go_wp2_with (first | ((with_reducible refine gate_dst (N := 1) rfl ?_); refine zx 1 #[.bool a0_0, .int .u64 a0_1, .int .u64 a0_2, .int .i64 a0_3] 33 ?_; intro gb133 hg w6 hbox hb; have BK133 := Aside0.mk (hbox); have GW133 := zG HB hg; have GE133 := zG HB hg; replace HB := Aside0.mk (below_step (zB HB) hb); clear hb hbox hg))
 replace BK133 := Aside0.mk (blk_drew BK133.out); replace HB := Aside0.mk (below_drew1 HB.out)
 refine start_ (n := 9) (S := fun w' => w'.cell? ⟨gb133, 0, none⟩ = some (.bool a0_0) ∧ w'.cell? ⟨gb133, 1, none⟩ = some (.int .u64 a0_1) ∧ w'.cell? ⟨gb133, 2, none⟩ = some (.int .u64 a0_2) ∧ w'.cell? ⟨gb133, 3, none⟩ = some (.int .i64 a0_3)) (ds := []) #[false, false, false, false, false, false, false, false, false] (by kernel_rfl) rfl rfl ⟨zc BK133 0, zc BK133 1, zc BK133 2, zc BK133 3⟩ (fun hHeld => ?_); refine with_tabW address_FormatPrefix.tab1 address_FormatPrefix.bits1 (fun HT_ HW_ => ?_)
 generalize w6.drew = w7 at BK133 HB hHeld ⊢
 refine zp 0 3 HT_ ?_; refine zp 4 7 HT_ ?_; refine zt 1 4 HT_ HW_ hHeld ?_; refine zt 5 8 HT_ HW_ hHeld ?_; refine zo 2 5 HT_ (fun K hK => ?_)
 refine zg Tryz.func62 #[.agg #[.bool a0_0, .int .u64 a0_1, .int .u64 a0_2]] ?_
 with_reducible refine (address_Format.calls a0_0 a0_1 a0_2 t134 _ A2.out (WOK.below hW_ (zB HB))).mono ?_
 rintro e w8 ⟨rfl, hb⟩
 refine ⟨_, rfl, ?_⟩
 replace BK133 := zkb BK133 hb; replace HB := Aside0.mk (below_step (zB HB) hb)
 try clear hb
 refine hK.out _ _ ⟨zc BK133 0, zc BK133 1, zc BK133 2, zc BK133 3⟩ (fun hHeld => ?_)
 clear hK K
 refine zn 5 ?_; refine zp 3 6 HT_ ?_; refine zo 6 9 HT_ (fun K hK => ?_)
 refine zg Tryz.func41 #[.int .i64 a0_3] ?_
 with_reducible refine (strconv_Itoa.calls a0_3 t135 _ A4.out (WOK.below hW_ (zB HB))).mono ?_
 rintro e w9 ⟨rfl, hb⟩
 refine ⟨_, rfl, ?_⟩
 replace BK133 := zkb BK133 hb; replace HB := Aside0.mk (below_step (zB HB) hb)
 try clear hb
 refine hK.out _ _ ⟨zc BK133 0, zc BK133 1, zc BK133 2, zc BK133 3⟩ (fun hHeld => ?_)
 clear hK K
 refine zn 9 ?_; refine zp 7 10 HT_ ?_; refine zp 8 2 HT_ ?_; refine zd HT_ ?_
 try go_wp2
 go_ret
 exact ⟨zr, zB HB⟩
end Go.Proofs.YtnphnhkinjppjaaGreatDoor.Q
end

section
namespace Go.Proofs.YtnphnhkinjppjaaGreatDoor.Q
open Go.RowKit Go.Proofs.YtnphnhkinjppjaaGreatDoorW.PrintWords Go.Proofs.YtnphnhkinjppjaaGreatDoorW.PrintLast Go.Proofs.YtnphnhkinjppjaaGreatDoorW.PrintMore
attribute [local go_sem] max2_int min2_int max_two min_two max_three min_three max_four min_four
def r06_FormatPrefix.f (k : Nat) (a0_0 : Bool) (a0_1 : Int) (a0_2 : Int) (a0_3 : Int) : Option (ByteArray) := (r06_Format.f k a0_0 a0_1 a0_2).bind fun t351 => (if t351.size + 1 ≤ 9223372036854775807 then ((r06_Number.f k a0_3).bind fun t352 => (if (t351 ++ (⟨#[47]⟩ : ByteArray)).size + t352.size ≤ 9223372036854775807 then (some ((t351 ++ (⟨#[47]⟩ : ByteArray)) ++ t352)) else (none))) else (none))
theorem r06_FormatPrefix.mono : ∀ a0 a1 a2 a3 k, LeO (r06_FormatPrefix.f k a0 a1 a2 a3) (r06_FormatPrefix.f (k + 1) a0 a1 a2 a3) := by
  intro a0 a1 a2 a3 k
  unfold r06_FormatPrefix.f
  repeat' first
      | (with_reducible exact r06_Format.mono _ _ _ _)
      | (with_reducible exact r06_Number.mono _ _)
      | (with_reducible exact LeO.refl _)
      | (with_reducible exact LeO.none _)
      | (with_reducible refine LeO.ite ?_ ?_)
      | (with_reducible refine LeO.bind ?_ (fun _ => ?_))
end Go.Proofs.YtnphnhkinjppjaaGreatDoor.Q
end

section
namespace Go.Proofs.YtnphnhkinjppjaaGreatDoor.Q
open Go.RowKit Go.Proofs.YtnphnhkinjppjaaGreatDoorW.PrintWords Go.Proofs.YtnphnhkinjppjaaGreatDoorW.PrintLast Go.Proofs.YtnphnhkinjppjaaGreatDoorW.PrintMore
theorem w_255 (x : Int) : wrap64 (Go.bits .and .u64 x 255) = Go.bits .and .u64 x 255 := by
  have := and255 x
  exact wid (by omega) (by omega)
def dotB : ByteArray := ⟨#[46]⟩
def fmt4 (w x y z : ByteArray) : ByteArray := ((((((w ++ dotB) ++ x) ++ dotB) ++ y) ++ dotB) ++ z)
theorem dot_size : dotB.size = 1 := rfl
theorem join4 (w x y z : ByteArray) (hw : w.size ≤ 3) (hx : x.size ≤ 3) (hy : y.size ≤ 3) (hz : z.size ≤ 3) : strings_Join.f [w, x, y, z] (⟨#[46]⟩ : ByteArray) = some (fmt4 w x y z) := by
  have e : Lib.join ([w, x, y, z].map (·.data.toList)) (⟨#[46]⟩ : ByteArray).data.toList = (fmt4 w x y z).data.toList := by
    unfold Lib.join fmt4 dotB
    simp [List.intercalate, List.intersperse, ByteArray.data_append]
  have hs : (fmt4 w x y z).size ≤ 15 := by
    unfold fmt4
    simp only [ByteArray.size_append, dot_size]
    omega
  unfold strings_Join.f
  rw [e, if_pos (by rw [← size_list]; omega), if_pos (by simp)]
theorem fmt4_size (w x y z : ByteArray) (hw : w.size ≤ 3) (hx : x.size ≤ 3) (hy : y.size ≤ 3) (hz : z.size ≤ 3) : (fmt4 w x y z).size ≤ 15 := by
  unfold fmt4
  simp only [ByteArray.size_append, dot_size]
  omega
def txt4 (lo : Int) : ByteArray := fmt4 (decB (Go.bits .and .u64 (lo / 16777216) 255)) (decB (Go.bits .and .u64 (lo / 65536) 255)) (decB (Go.bits .and .u64 (lo / 256) 255)) (decB (Go.bits .and .u64 lo 255))
theorem rfmt4_ev (hi lo : Int) : Ev (fun k => r06_Format.f k false hi lo) (txt4 lo) := by
  obtain ⟨⟨K1, e1⟩, s1⟩ := num_ev (and255 (lo / 16777216)).1 (and255 (lo / 16777216)).2
  obtain ⟨⟨K2, e2⟩, s2⟩ := num_ev (and255 (lo / 65536)).1 (and255 (lo / 65536)).2
  obtain ⟨⟨K3, e3⟩, s3⟩ := num_ev (and255 (lo / 256)).1 (and255 (lo / 256)).2
  obtain ⟨⟨K4, e4⟩, s4⟩ := num_ev (and255 lo).1 (and255 lo).2
  refine ⟨K1 + K2 + K3 + K4, fun k hk => ?_⟩
  have f1 := e1 k (by omega)
  have f2 := e2 k (by omega)
  have f3 := e3 k (by omega)
  have f4 := e4 k (by omega)
  dsimp only at f1 f2 f3 f4 ⊢
  unfold r06_Format.f
  simp only [w_255]
  rw [if_neg Bool.false_ne_true, f1, Option.bind_some, if_pos (by omega), f2, Option.bind_some]
  have hd : (⟨#[46]⟩ : ByteArray) = dotB := rfl
  rw [hd]
  rw [if_pos (by simp only [ByteArray.size_append, dot_size]; omega), if_pos (by simp only [ByteArray.size_append, dot_size]; omega), f3, Option.bind_some]
  rw [if_pos (by simp only [ByteArray.size_append, dot_size]; omega), if_pos (by simp only [ByteArray.size_append, dot_size]; omega), f4, Option.bind_some]
  rw [if_pos (by simp only [ByteArray.size_append, dot_size]; omega)]
  rfl
theorem fmtT_size (l : List Int) (p q : Nat) : ∀ (d i : Nat) (o : ByteArray), (fmtT l p q d i o).size ≤ o.size + 8 * d
  | 0, i, o => by unfold fmtT; omega
  | d + 1, i, o => by
    have hx := hexL_size 4 (l.getD i 0).toNat
    unfold fmtT
    split
    · split
      · have := fmtT_size l p q d q (o ++ ⟨#[58, 58]⟩)
        rw [ByteArray.size_append, show (⟨#[58, 58]⟩ : ByteArray).size = 2 from rfl] at this
        omega
      · split
        · have := fmtT_size l p q d (i + 1) (o ++ ⟨#[58]⟩ ++ ⟨(hexL 4 (l.getD i 0).toNat).toArray⟩)
          rw [ByteArray.size_append, ByteArray.size_append, show (⟨#[58]⟩ : ByteArray).size = 1 from rfl] at this
          omega
        · have := fmtT_size l p q d (i + 1) (o ++ ⟨(hexL 4 (l.getD i 0).toNat).toArray⟩)
          rw [ByteArray.size_append] at this
          omega
    · omega
def txtA (a : Ad) : ByteArray := if a.f0 = true then fmt6 a.f1 a.f2 else txt4 a.f2
theorem fmt_eq (a : Ad) : address_Format.f a.f0 a.f1 a.f2 = some (txtA a) := by
  unfold address_Format.f txtA
  cases a.f0
  · rw [if_neg Bool.false_ne_true, if_neg Bool.false_ne_true]
    exact join4 _ _ _ _ (num_ev (and255 _).1 (and255 _).2).2 (num_ev (and255 _).1 (and255 _).2).2 (num_ev (and255 _).1 (and255 _).2).2 (num_ev (and255 _).1 (and255 _).2).2
  · rfl
theorem rfmt_ev (a : Ad) : Ev (fun k => r06_Format.f k a.f0 a.f1 a.f2) (txtA a) := by
  unfold txtA
  cases a.f0
  · rw [if_neg Bool.false_ne_true]
    exact rfmt4_ev _ _
  · rw [if_pos rfl]
    exact fmt6_ev _ _
theorem txtA_size (a : Ad) : (txtA a).size ≤ 64 := by
  unfold txtA
  split
  · have := fmtT_size (grpL a.f1 a.f2) (runF (grpL a.f1 a.f2) 8 0 (0, 0)).1 (runF (grpL a.f1 a.f2) 8 0 (0, 0)).2 8 0 ⟨#[]⟩
    exact this
  · have := fmt4_size _ _ _ _ (num_ev (and255 (a.f2 / 16777216)).1 (and255 _).2).2 (num_ev (and255 (a.f2 / 65536)).1 (and255 _).2).2 (num_ev (and255 (a.f2 / 256)).1 (and255 _).2).2 (num_ev (and255 a.f2).1 (and255 _).2).2
    unfold txt4
    omega
def txtP (a : Ad) (b : Int) : ByteArray := (txtA a ++ ⟨#[47]⟩) ++ decB b
theorem itoa_s {b : Int} (h0 : 0 ≤ b) (h1 : b < 256) : strconv_Itoa.f b = some (decB b) := by
  unfold strconv_Itoa.f decB
  rw [if_pos (by omega)]
theorem fp_eq (a : Ad) {b : Int} (h0 : 0 ≤ b) (h1 : b < 256) : address_FormatPrefix.f a.f0 a.f1 a.f2 b = some (txtP a b) := by
  have hs := txtA_size a
  have hd := (num_ev h0 h1).2
  unfold address_FormatPrefix.f txtP
  rw [fmt_eq, Option.bind_some, if_pos (by omega), itoa_s h0 h1, Option.bind_some, if_pos (by rw [ByteArray.size_append, show (⟨#[47]⟩ : ByteArray).size = 1 from rfl]; omega)]
theorem rfp_ev (a : Ad) {b : Int} (h0 : 0 ≤ b) (h1 : b < 256) : Ev (fun k => r06_FormatPrefix.f k a.f0 a.f1 a.f2 b) (txtP a b) := by
  have hs := txtA_size a
  have hd := (num_ev h0 h1).2
  unfold r06_FormatPrefix.f txtP
  refine Ev.bind (rfmt_ev a) ?_
  refine Ev.congr (f := fun k => (r06_Number.f k b).bind fun t => some (txtA a ++ ⟨#[47]⟩ ++ t)) (fun k => ?_) (Ev.bind (num_ev h0 h1).1 (Ev.now _))
  rw [if_pos (by omega)]
  cases hn : r06_Number.f k b with
  | none => rfl
  | some t =>
    have ht : t = decB b := by
      obtain ⟨K, e⟩ := (num_ev h0 h1).1
      have mono : ∀ j, r06_Number.f (k + j) b = some t := fun j => by
        induction j with
        | zero => exact hn
        | succ j ih => exact r06_Number.mono b (k + j) _ ih
      have := e (k + K) (by omega)
      dsimp only at this
      rw [mono K] at this
      injection this
    rw [Option.bind_some, Option.bind_some, ht, if_pos (by rw [ByteArray.size_append, show (⟨#[47]⟩ : ByteArray).size = 1 from rfl]; omega)]
theorem and_zero (x n : Nat) (hx : x < 18446744073709551616) (hn : n ≤ 64) : Go.bits .and .u64 (x : Int) ((2 ^ n - 1 : Nat) : Int) = 0 ↔ setN x n false = x := by
  rw [bits_and x n hx hn]
  have := Nat.mod_le x (2 ^ n)
  unfold setN
  simp only [Bool.false_eq_true, if_false]
  omega
theorem low_iff {a : Ad} (h : AW a) {k : Nat} (hk : k ≤ 128) : (Go.bits .and .u64 a.f1 (hiM k) = 0 ∧ Go.bits .and .u64 a.f2 (loM k) = 0) ↔ subA a k false = a := by
  rw [subA_eq h hk]
  obtain ⟨h1, h2, h3, h4⟩ := h
  obtain ⟨a0, a1, a2⟩ := a
  simp only at h1 h2 h3 h4 ⊢
  have e1 := and_zero a1.toNat (k - 64) (by omega) (by omega)
  have e2 := and_zero a2.toNat (min k 64) (by omega) (by omega)
  rw [show ((a1.toNat : Nat) : Int) = a1 from by omega] at e1
  rw [show ((a2.toNat : Nat) : Int) = a2 from by omega] at e2
  unfold hiM loM
  rw [e1, e2]
  simp only [Ad, S31.mk.injEq, true_and]
  omega
def vpB (a : Ad) (b : Int) : Bool := adB a && (decide (0 ≤ b ∧ b ≤ szA a.f0) && decide (subA a (restN a b) false = a))
theorem vp_eq {a : Ad} (h : AW a) (b : Int) : address_ValidPrefix.f a.f0 a.f1 a.f2 b = some (vpB a b) := by
  have hs := szA_le a.f0
  unfold address_ValidPrefix.f vpB
  rw [fine_eq, Option.bind_some]
  cases hf : adB a
  · rfl
  · rw [if_pos rfl, Bool.true_and]
    by_cases h0 : b < 0
    · rw [if_pos h0, decide_eq_false (by omega)]; rfl
    · rw [if_neg h0, size_eq, Option.bind_some]
      by_cases h1 : b > ((szA a.f0 : Nat) : Int)
      · rw [if_pos h1, decide_eq_false (by omega)]; rfl
      · have hk : restN a b ≤ 128 := by unfold restN; omega
        have hl := low_iff h hk
        rw [if_neg h1, mask_eq a b (restN a b) (by unfold restN; omega) (by omega) (by omega), Option.bind_some, decide_eq_true (show 0 ≤ b ∧ b ≤ ((szA a.f0 : Nat) : Int) from by omega), Bool.true_and]
        by_cases c : Go.bits .and .u64 a.f1 (hiM (restN a b)) = 0
        · rw [if_pos c]
          congr 1
          rw [Bool.eq_iff_iff, beq_iff_eq, decide_eq_true_eq, ← hl]
          exact ⟨fun h => ⟨c, h⟩, fun h => h.2⟩
        · rw [if_neg c, decide_eq_false (fun e => c (hl.2 e).1)]
end Go.Proofs.YtnphnhkinjppjaaGreatDoor.Q
end

section
set_option maxHeartbeats 8000000
set_option maxRecDepth 100000
namespace Go.Proofs.YtnphnhkinjppjaaGreatDoor.Q
open Go.RowKit Go.Proofs.YtnphnhkinjppjaaGreatDoorW.PrintWords Go.Proofs.YtnphnhkinjppjaaGreatDoorW.PrintLast Go.Proofs.YtnphnhkinjppjaaGreatDoorW.PrintMore
attribute [local go_sem] max2_int min2_int max_two min_two max_three min_three max_four min_four
mutual
def asset_checkOne.j0 : Nat → Bool → ByteArray → Bool → Int → Int → Int → Int → Int → Int → Int → Bool → Int → List (S74) → Option (Int)
  | 0, _, _, _, _, _, _, _, _, _, _, _, _, _ => none
  | k + 1, x15, x120000, x120001, x120002, x120003, x120004, x120005, x120006, x120007, x120008, x120009, x120010, x120011 => if x15 = true then (some 4) else (if x120007 < 0 then (some 4) else (if x120007 > 64 then (some 4) else (if x120008 < 1 then (some 4) else (if x120008 > 8192 then (some 4) else (if x120010 < 0 then (some 4) else (if x120010 > 3 then (some 4) else (asset_checkOne.l0 k x120011 (x120011.length : Int) 0 x120000 x120001 x120002 x120003 x120004 x120005 x120006 x120007 x120008 x120009 x120010 x120011)))))))
def asset_checkOne.l0 : Nat → List (S74) → Int → Int → ByteArray → Bool → Int → Int → Int → Int → Int → Int → Int → Bool → Int → List (S74) → Option (Int)
  | 0, _, _, _, _, _, _, _, _, _, _, _, _, _, _, _ => none
  | k + 1, x64, x65, x66, x120000, x120001, x120002, x120003, x120004, x120005, x120006, x120007, x120008, x120009, x120010, x120011 => if x66 < x65 then (if 0 ≤ x66 then (if x66 < (x64.length : Int) then (if ((rd_T74 x64 x66).f0) = 6 then (if ((rd_T74 x64 x66).f1) < 0 then (some 4) else (if ((rd_T74 x64 x66).f1) > 65535 then (some 4) else (if ((rd_T74 x64 x66).f2) < 0 then (some 4) else (if ((rd_T74 x64 x66).f2) > 4 then (some 4) else (asset_checkOne.l0 k x64 x65 (wrap64 (x66 + 1)) x120000 x120001 x120002 x120003 x120004 x120005 x120006 x120007 x120008 x120009 x120010 x120011))))) else (if ((rd_T74 x64 x66).f0) = 17 then (if ((rd_T74 x64 x66).f1) < 0 then (some 4) else (if ((rd_T74 x64 x66).f1) > 65535 then (some 4) else (if ((rd_T74 x64 x66).f2) < 0 then (some 4) else (if ((rd_T74 x64 x66).f2) > 4 then (some 4) else (asset_checkOne.l0 k x64 x65 (wrap64 (x66 + 1)) x120000 x120001 x120002 x120003 x120004 x120005 x120006 x120007 x120008 x120009 x120010 x120011))))) else (some 4))) else (none)) else (none)) else ((address_ValidPrefix.f x120001 x120002 x120003 x120004).bind fun t123 => (if t123 = true then (some 0) else (some 2)))
end
def asset_checkOne.f (k : Nat) (a0_0 : ByteArray) (a0_1 : Bool) (a0_2 : Int) (a0_3 : Int) (a0_4 : Int) (a0_5 : Int) (a0_6 : Int) (a0_7 : Int) (a0_8 : Int) (a0_9 : Bool) (a0_10 : Int) (l0_11 : List (S74)) : Option (Int) := if (l0_11.length : Int) > 16 then (some 3) else ((lexer_IsName.f k a0_0).bind fun t120 => (if t120 = true then (if a0_5 < 1 then (asset_checkOne.j0 k true a0_0 a0_1 a0_2 a0_3 a0_4 a0_5 a0_6 a0_7 a0_8 a0_9 a0_10 l0_11) else (if a0_5 > 4 then (asset_checkOne.j0 k true a0_0 a0_1 a0_2 a0_3 a0_4 a0_5 a0_6 a0_7 a0_8 a0_9 a0_10 l0_11) else (if a0_6 < 1 then (asset_checkOne.j0 k true a0_0 a0_1 a0_2 a0_3 a0_4 a0_5 a0_6 a0_7 a0_8 a0_9 a0_10 l0_11) else (asset_checkOne.j0 k (decide (a0_6 > 5)) a0_0 a0_1 a0_2 a0_3 a0_4 a0_5 a0_6 a0_7 a0_8 a0_9 a0_10 l0_11)))) else (some 5)))
theorem asset_checkOne.mono_l : ∀ k, (∀ y0 y1 y2 y3 y4 y5 y6 y7 y8 y9 y10 y11 y12, LeO (asset_checkOne.j0 k y0 y1 y2 y3 y4 y5 y6 y7 y8 y9 y10 y11 y12) (asset_checkOne.j0 (k + 1) y0 y1 y2 y3 y4 y5 y6 y7 y8 y9 y10 y11 y12)) ∧ (∀ y0 y1 y2 y3 y4 y5 y6 y7 y8 y9 y10 y11 y12 y13 y14, LeO (asset_checkOne.l0 k y0 y1 y2 y3 y4 y5 y6 y7 y8 y9 y10 y11 y12 y13 y14) (asset_checkOne.l0 (k + 1) y0 y1 y2 y3 y4 y5 y6 y7 y8 y9 y10 y11 y12 y13 y14))
  | 0 => ⟨fun _ _ _ _ _ _ _ _ _ _ _ _ _ r h => by simp [asset_checkOne.j0] at h, fun _ _ _ _ _ _ _ _ _ _ _ _ _ _ _ r h => by simp [asset_checkOne.l0] at h⟩
  | k + 1 => by
    obtain ⟨ih0, ih1⟩ := asset_checkOne.mono_l k
    refine ⟨?_, ?_⟩
    · intro y0 y1 y2 y3 y4 y5 y6 y7 y8 y9 y10 y11 y12
      unfold asset_checkOne.j0
      repeat' first
      | (with_reducible exact ih0 _ _ _ _ _ _ _ _ _ _ _ _ _)
      | (with_reducible exact ih1 _ _ _ _ _ _ _ _ _ _ _ _ _ _ _)
      | (with_reducible exact lexer_IsName.mono _ _)
      | (with_reducible exact LeO.refl _)
      | (with_reducible exact LeO.none _)
      | (with_reducible refine LeO.ite ?_ ?_)
      | (with_reducible refine LeO.bind ?_ (fun _ => ?_))
    · intro y0 y1 y2 y3 y4 y5 y6 y7 y8 y9 y10 y11 y12 y13 y14
      unfold asset_checkOne.l0
      repeat' first
      | (with_reducible exact ih0 _ _ _ _ _ _ _ _ _ _ _ _ _)
      | (with_reducible exact ih1 _ _ _ _ _ _ _ _ _ _ _ _ _ _ _)
      | (with_reducible exact lexer_IsName.mono _ _)
      | (with_reducible exact LeO.refl _)
      | (with_reducible exact LeO.none _)
      | (with_reducible refine LeO.ite ?_ ?_)
      | (with_reducible refine LeO.bind ?_ (fun _ => ?_))
theorem asset_checkOne.mono : ∀ a0 a1 a2 a3 a4 a5 a6 a7 a8 a9 a10 a11 k, LeO (asset_checkOne.f k a0 a1 a2 a3 a4 a5 a6 a7 a8 a9 a10 a11) (asset_checkOne.f (k + 1) a0 a1 a2 a3 a4 a5 a6 a7 a8 a9 a10 a11) := by
  intro a0 a1 a2 a3 a4 a5 a6 a7 a8 a9 a10 a11 k
  obtain ⟨ih0, ih1⟩ := asset_checkOne.mono_l k
  unfold asset_checkOne.f
  repeat' first
      | (with_reducible exact ih0 _ _ _ _ _ _ _ _ _ _ _ _ _)
      | (with_reducible exact ih1 _ _ _ _ _ _ _ _ _ _ _ _ _ _ _)
      | (with_reducible exact lexer_IsName.mono _ _)
      | (with_reducible exact LeO.refl _)
      | (with_reducible exact LeO.none _)
      | (with_reducible refine LeO.ite ?_ ?_)
      | (with_reducible refine LeO.bind ?_ (fun _ => ?_))
theorem asset_checkOne.calls (k : Nat) (a0_0 : ByteArray) (a0_1 : Bool) (a0_2 : Int) (a0_3 : Int) (a0_4 : Int) (a0_5 : Int) (a0_6 : Int) (a0_7 : Int) (a0_8 : Int) (a0_9 : Bool) (a0_10 : Int) (A0_11 : Option Addr) (c0_11 : Nat) (l0_11 : List (S74)) (r : Int) (w : World) (hr0_11 : Kd.C k74 w A0_11 l0_11.length l0_11) (hc0_11 : l0_11.length ≤ c0_11) (h : asset_checkOne.f k a0_0 a0_1 a0_2 a0_3 a0_4 a0_5 a0_6 a0_7 a0_8 a0_9 a0_10 l0_11 = some r) :
 Calls Tryz.prog 30 #[.agg #[.string a0_0, .bool a0_1, .int .u64 a0_2, .int .u64 a0_3, .int .i64 a0_4, .int .i64 a0_5, .int .i64 a0_6, .int .i64 a0_7, .int .i64 a0_8, .bool a0_9, .int .i64 a0_10, .slice A0_11 l0_11.length c0_11]] w fun e w' => e = .returned (.int .i64 r) ∧ Below w.heap.size w w' := by
 have hu36 := Tryz.underlying36
 have hu74 := Tryz.underlying74
 have hu33 := Tryz.underlying33
 have HR0_11 := Aside0.mk hr0_11; have HC0_11 := Aside0.mk hc0_11; clear hr0_11 hc0_11; have HB := Aside0.mk (Below.refl w.heap.size w)
 unfold asset_checkOne.f at h; have H := h
 clear h
 by_cases c2 : (l0_11.length : Int) > 16
 · rw [if_pos c2] at H
   have c2b0 : decide (16 < (l0_11.length : Int)) = true := decide_eq_true c2
   have c2b1 : decide (16 < l0_11.length) = true := decide_eq_true (by omega)
   clear c2
   obtain rfl := Option.some.inj H
   go_enter Tryz.func30, Tryz.ntmps30
   go_wp2_with (first | ((with_reducible refine gate_dst (N := 1) rfl ?_); refine zx 1 #[.string a0_0, .bool a0_1, .int .u64 a0_2, .int .u64 a0_3, .int .i64 a0_4, .int .i64 a0_5, .int .i64 a0_6, .int .i64 a0_7, .int .i64 a0_8, .bool a0_9, .int .i64 a0_10, .slice A0_11 l0_11.length c0_11] 36 ?_; intro gb119 hg w3 hbox hb; have BK119 := Aside0.mk (hbox); have GW119 := zG HB hg; have GE119 := zG HB hg; replace HB := Aside0.mk (below_step (zB HB) hb); clear hb hbox hg; obtain ⟨hcz4_0, hcz4_1, hcz4_2, hcz4_3, hcz4_4, hcz4_5, hcz4_6, hcz4_7, hcz4_8, hcz4_9, hcz4_10, hcz4_11⟩ := zc12 BK119; obtain ⟨hfz4_0, hfz4_1, hfz4_2, hfz4_3, hfz4_4, hfz4_5, hfz4_6, hfz4_7, hfz4_8, hfz4_9, hfz4_10, hfz4_11⟩ := zf12 BK119))
   go_ret
   exact ⟨zr, zB HB⟩
 rw [if_neg c2] at H; have c2b0 : decide (16 < (l0_11.length : Int)) = false := decide_eq_false c2
 have c2b1 : decide (16 < l0_11.length) = false := decide_eq_false (by omega)
 clear c2
 replace H := Option.bind_eq_some_iff.mp H
 obtain ⟨t120, A50, H⟩ := H
 try dsimp only at H
 have A5 := Aside0.mk A50; clear A50
 by_cases c6 : t120 = true
 rotate_left
 · replace c6 := Bool.eq_false_iff.mpr c6
   subst c6; rw [if_neg zF] at H
   obtain rfl := Option.some.inj H
   go_enter Tryz.func30, Tryz.ntmps30
   go_wp2_with (first | ((with_reducible refine gate_dst (N := 1) rfl ?_); refine zx 1 #[.string a0_0, .bool a0_1, .int .u64 a0_2, .int .u64 a0_3, .int .i64 a0_4, .int .i64 a0_5, .int .i64 a0_6, .int .i64 a0_7, .int .i64 a0_8, .bool a0_9, .int .i64 a0_10, .slice A0_11 l0_11.length c0_11] 36 ?_; intro gb119 hg w83 hbox hb; have BK119 := Aside0.mk (hbox); have GW119 := zG HB hg; have GE119 := zG HB hg; replace HB := Aside0.mk (below_step (zB HB) hb); clear hb hbox hg; obtain ⟨hcz84_0, hcz84_1, hcz84_2, hcz84_3, hcz84_4, hcz84_5, hcz84_6, hcz84_7, hcz84_8, hcz84_9, hcz84_10, hcz84_11⟩ := zc12 BK119; obtain ⟨hfz84_0, hfz84_1, hfz84_2, hfz84_3, hfz84_4, hfz84_5, hfz84_6, hfz84_7, hfz84_8, hfz84_9, hfz84_10, hfz84_11⟩ := zf12 BK119) | ((with_reducible refine gate_callee (f := 55) rfl ?_); refine zgl 13 Tryz.func55 #[.string a0_0] ?_; (with_reducible refine (lexer_IsName.calls k a0_0 false _ A5.out).mono ?_); rintro e w' ⟨rfl, ⟨nd, rfl⟩⟩; refine ⟨_, rfl, ?_⟩))
   go_ret
   exact ⟨zr, zB HB⟩
 subst c6
 rw [if_pos rfl] at H; have HC7 := Aside0.mk H; clear H
 go_enter Tryz.func30, Tryz.ntmps30
 go_upto_region 5 with (first | ((with_reducible refine gate_dst (N := 1) rfl ?_); refine zx 1 #[.string a0_0, .bool a0_1, .int .u64 a0_2, .int .u64 a0_3, .int .i64 a0_4, .int .i64 a0_5, .int .i64 a0_6, .int .i64 a0_7, .int .i64 a0_8, .bool a0_9, .int .i64 a0_10, .slice A0_11 l0_11.length c0_11] 36 ?_; intro gb119 hg w8 hbox hb; have BK119 := Aside0.mk (hbox); have GW119 := zG HB hg; have GE119 := zG HB hg; replace HB := Aside0.mk (below_step (zB HB) hb); clear hb hbox hg; obtain ⟨hcz9_0, hcz9_1, hcz9_2, hcz9_3, hcz9_4, hcz9_5, hcz9_6, hcz9_7, hcz9_8, hcz9_9, hcz9_10, hcz9_11⟩ := zc12 BK119; obtain ⟨hfz9_0, hfz9_1, hfz9_2, hfz9_3, hfz9_4, hfz9_5, hfz9_6, hfz9_7, hfz9_8, hfz9_9, hfz9_10, hfz9_11⟩ := zf12 BK119) | ((with_reducible refine gate_callee (f := 55) rfl ?_); refine zgl 13 Tryz.func55 #[.string a0_0] ?_; (with_reducible refine (lexer_IsName.calls k a0_0 true _ A5.out).mono ?_); rintro e w' ⟨rfl, ⟨nd, rfl⟩⟩; refine ⟨_, rfl, ?_⟩))
 (try simp only [Act.put, List.setIfInBounds_toArray, List.set_cons_zero, List.set_cons_succ])
 go_cut [15] (fun v15 wc => ∃ (kq : Nat) (x15_6 : Bool), v15 = .bool x15_6 ∧ Aside0 (asset_checkOne.j0 kq x15_6 a0_0 a0_1 a0_2 a0_3 a0_4 a0_5 a0_6 a0_7 a0_8 a0_9 a0_10 l0_11 = some r) ∧ Aside0 (kq ≤ k) ∧ Aside0 (wc.heap[gb119]? = some (.cells #[.string a0_0, .bool a0_1, .int .u64 a0_2, .int .u64 a0_3, .int .i64 a0_4, .int .i64 a0_5, .int .i64 a0_6, .int .i64 a0_7, .int .i64 a0_8, .bool a0_9, .int .i64 a0_10, (.slice A0_11 l0_11.length c0_11)] 36 (0, 0))) ∧ Aside0 (Below w.heap.size w wc))
 case first =>
  have H := HC7.out
  clear HC7
  by_cases c10 : a0_5 < 1
  · rw [if_pos c10] at H
    have c10b0 : decide (a0_5 < 1) = true := decide_eq_true c10; clear c10
    (first | rw [c10b0] | (simp only [i64_w, i32_w]; rw [c10b0]) | skip)
    have H' := Aside0.mk H
    clear H; obtain ⟨hcz11_0, hcz11_1, hcz11_2, hcz11_3, hcz11_4, hcz11_5, hcz11_6, hcz11_7, hcz11_8, hcz11_9, hcz11_10, hcz11_11⟩ := zc12 BK119; obtain ⟨hfz11_0, hfz11_1, hfz11_2, hfz11_3, hfz11_4, hfz11_5, hfz11_6, hfz11_7, hfz11_8, hfz11_9, hfz11_10, hfz11_11⟩ := zf12 BK119
    go_wp2
    go_meet
    case rel => exact ⟨_, (true), zI, H', ⟨by first | omega | exact Nat.le_refl _⟩, ⟨zK BK119⟩, ⟨zB HB⟩⟩
  rw [if_neg c10] at H
  have c10b0 : decide (a0_5 < 1) = false := decide_eq_false c10; clear c10
  (first | rw [c10b0] | (simp only [i64_w, i32_w]; rw [c10b0]) | skip)
  by_cases c12 : a0_5 > 4
  · rw [if_pos c12] at H
    have c12b0 : decide (4 < a0_5) = true := decide_eq_true c12; clear c12
    have H' := Aside0.mk H
    clear H; obtain ⟨hcz13_0, hcz13_1, hcz13_2, hcz13_3, hcz13_4, hcz13_5, hcz13_6, hcz13_7, hcz13_8, hcz13_9, hcz13_10, hcz13_11⟩ := zc12 BK119; obtain ⟨hfz13_0, hfz13_1, hfz13_2, hfz13_3, hfz13_4, hfz13_5, hfz13_6, hfz13_7, hfz13_8, hfz13_9, hfz13_10, hfz13_11⟩ := zf12 BK119
    go_wp2
    go_meet
    case rel => exact ⟨_, (true), zI, H', ⟨by first | omega | exact Nat.le_refl _⟩, ⟨zK BK119⟩, ⟨zB HB⟩⟩
  rw [if_neg c12] at H
  have c12b0 : decide (4 < a0_5) = false := decide_eq_false c12; clear c12
  by_cases c14 : a0_6 < 1
  · rw [if_pos c14] at H
    have c14b0 : decide (a0_6 < 1) = true := decide_eq_true c14; clear c14
    have H' := Aside0.mk H
    clear H; obtain ⟨hcz15_0, hcz15_1, hcz15_2, hcz15_3, hcz15_4, hcz15_5, hcz15_6, hcz15_7, hcz15_8, hcz15_9, hcz15_10, hcz15_11⟩ := zc12 BK119; obtain ⟨hfz15_0, hfz15_1, hfz15_2, hfz15_3, hfz15_4, hfz15_5, hfz15_6, hfz15_7, hfz15_8, hfz15_9, hfz15_10, hfz15_11⟩ := zf12 BK119
    go_wp2
    go_meet
    case rel => exact ⟨_, (true), zI, H', ⟨by first | omega | exact Nat.le_refl _⟩, ⟨zK BK119⟩, ⟨zB HB⟩⟩
  rw [if_neg c14] at H
  have c14b0 : decide (a0_6 < 1) = false := decide_eq_false c14; clear c14
  have H' := Aside0.mk H
  clear H; obtain ⟨hcz16_0, hcz16_1, hcz16_2, hcz16_3, hcz16_4, hcz16_5, hcz16_6, hcz16_7, hcz16_8, hcz16_9, hcz16_10, hcz16_11⟩ := zc12 BK119; obtain ⟨hfz16_0, hfz16_1, hfz16_2, hfz16_3, hfz16_4, hfz16_5, hfz16_6, hfz16_7, hfz16_8, hfz16_9, hfz16_10, hfz16_11⟩ := zf12 BK119
  go_wp2
  go_meet
  case rel => exact ⟨_, (decide (a0_6 > 5)), zI, H', ⟨by first | omega | exact Nat.le_refl _⟩, ⟨zK BK119⟩, ⟨zB HB⟩⟩
 case rest =>
  clear HC7
  (try clear c2b0); (try clear c2b1); (try clear c6); (try clear hcz9_0 hcz9_1 hcz9_10 hcz9_11 hcz9_2 hcz9_3 hcz9_4 hcz9_5 hcz9_6 hcz9_7 hcz9_8 hcz9_9); (try clear hfz9_0 hfz9_1 hfz9_10 hfz9_11 hfz9_2 hfz9_3 hfz9_4 hfz9_5 hfz9_6 hfz9_7 hfz9_8 hfz9_9)
  obtain ⟨kq, x15_6, rfl, HA, HJ6, BK119, HB⟩ := hcut
  rcases kq with _ | kj6
  · exact absurd HA.out (by simp [asset_checkOne.j0])
  have H := HA.out
  clear HA
  simp only [asset_checkOne.j0] at H
  by_cases c17 : x15_6 = true
  · subst c17
    rw [if_pos rfl] at H
    obtain rfl := Option.some.inj H
    go_wp2
    go_ret
    exact ⟨zr, zB HB⟩
  replace c17 := Bool.eq_false_iff.mpr c17
  subst c17; rw [if_neg zF] at H
  by_cases c18 : a0_7 < 0
  · rw [if_pos c18] at H
    have c18b0 : decide (a0_7 < 0) = true := decide_eq_true c18; clear c18
    obtain rfl := Option.some.inj H
    obtain ⟨hcz19_0, hcz19_1, hcz19_2, hcz19_3, hcz19_4, hcz19_5, hcz19_6, hcz19_7, hcz19_8, hcz19_9, hcz19_10, hcz19_11⟩ := zc12 BK119; obtain ⟨hfz19_0, hfz19_1, hfz19_2, hfz19_3, hfz19_4, hfz19_5, hfz19_6, hfz19_7, hfz19_8, hfz19_9, hfz19_10, hfz19_11⟩ := zf12 BK119
    go_wp2
    go_ret
    exact ⟨zr, zB HB⟩
  rw [if_neg c18] at H
  have c18b0 : decide (a0_7 < 0) = false := decide_eq_false c18; clear c18
  by_cases c20 : a0_7 > 64
  · rw [if_pos c20] at H
    have c20b0 : decide (64 < a0_7) = true := decide_eq_true c20; clear c20
    obtain rfl := Option.some.inj H
    obtain ⟨hcz21_0, hcz21_1, hcz21_2, hcz21_3, hcz21_4, hcz21_5, hcz21_6, hcz21_7, hcz21_8, hcz21_9, hcz21_10, hcz21_11⟩ := zc12 BK119; obtain ⟨hfz21_0, hfz21_1, hfz21_2, hfz21_3, hfz21_4, hfz21_5, hfz21_6, hfz21_7, hfz21_8, hfz21_9, hfz21_10, hfz21_11⟩ := zf12 BK119
    go_wp2
    go_ret
    exact ⟨zr, zB HB⟩
  rw [if_neg c20] at H
  have c20b0 : decide (64 < a0_7) = false := decide_eq_false c20; clear c20
  by_cases c22 : a0_8 < 1
  · rw [if_pos c22] at H
    have c22b0 : decide (a0_8 < 1) = true := decide_eq_true c22; clear c22
    obtain rfl := Option.some.inj H
    obtain ⟨hcz23_0, hcz23_1, hcz23_2, hcz23_3, hcz23_4, hcz23_5, hcz23_6, hcz23_7, hcz23_8, hcz23_9, hcz23_10, hcz23_11⟩ := zc12 BK119; obtain ⟨hfz23_0, hfz23_1, hfz23_2, hfz23_3, hfz23_4, hfz23_5, hfz23_6, hfz23_7, hfz23_8, hfz23_9, hfz23_10, hfz23_11⟩ := zf12 BK119
    go_wp2
    go_ret
    exact ⟨zr, zB HB⟩
  rw [if_neg c22] at H
  have c22b0 : decide (a0_8 < 1) = false := decide_eq_false c22; clear c22
  by_cases c24 : a0_8 > 8192
  · rw [if_pos c24] at H
    have c24b0 : decide (8192 < a0_8) = true := decide_eq_true c24; clear c24
    obtain rfl := Option.some.inj H
    obtain ⟨hcz25_0, hcz25_1, hcz25_2, hcz25_3, hcz25_4, hcz25_5, hcz25_6, hcz25_7, hcz25_8, hcz25_9, hcz25_10, hcz25_11⟩ := zc12 BK119; obtain ⟨hfz25_0, hfz25_1, hfz25_2, hfz25_3, hfz25_4, hfz25_5, hfz25_6, hfz25_7, hfz25_8, hfz25_9, hfz25_10, hfz25_11⟩ := zf12 BK119
    go_wp2
    go_ret
    exact ⟨zr, zB HB⟩
  rw [if_neg c24] at H
  have c24b0 : decide (8192 < a0_8) = false := decide_eq_false c24; clear c24
  by_cases c26 : a0_10 < 0
  · rw [if_pos c26] at H
    have c26b0 : decide (a0_10 < 0) = true := decide_eq_true c26; clear c26
    obtain rfl := Option.some.inj H
    obtain ⟨hcz27_0, hcz27_1, hcz27_2, hcz27_3, hcz27_4, hcz27_5, hcz27_6, hcz27_7, hcz27_8, hcz27_9, hcz27_10, hcz27_11⟩ := zc12 BK119; obtain ⟨hfz27_0, hfz27_1, hfz27_2, hfz27_3, hfz27_4, hfz27_5, hfz27_6, hfz27_7, hfz27_8, hfz27_9, hfz27_10, hfz27_11⟩ := zf12 BK119
    go_wp2
    go_ret
    exact ⟨zr, zB HB⟩
  rw [if_neg c26] at H
  have c26b0 : decide (a0_10 < 0) = false := decide_eq_false c26; clear c26
  by_cases c28 : a0_10 > 3
  · rw [if_pos c28] at H
    have c28b0 : decide (3 < a0_10) = true := decide_eq_true c28; clear c28
    obtain rfl := Option.some.inj H
    obtain ⟨hcz29_0, hcz29_1, hcz29_2, hcz29_3, hcz29_4, hcz29_5, hcz29_6, hcz29_7, hcz29_8, hcz29_9, hcz29_10, hcz29_11⟩ := zc12 BK119; obtain ⟨hfz29_0, hfz29_1, hfz29_2, hfz29_3, hfz29_4, hfz29_5, hfz29_6, hfz29_7, hfz29_8, hfz29_9, hfz29_10, hfz29_11⟩ := zf12 BK119
    go_wp2
    go_ret
    exact ⟨zr, zB HB⟩
  rw [if_neg c28] at H
  have c28b0 : decide (3 < a0_10) = false := decide_eq_false c28; clear c28
  have H' := Aside0.mk H
  clear H; obtain ⟨hcz30_0, hcz30_1, hcz30_2, hcz30_3, hcz30_4, hcz30_5, hcz30_6, hcz30_7, hcz30_8, hcz30_9, hcz30_10, hcz30_11⟩ := zc12 BK119; obtain ⟨hfz30_0, hfz30_1, hfz30_2, hfz30_3, hfz30_4, hfz30_5, hfz30_6, hfz30_7, hfz30_8, hfz30_9, hfz30_10, hfz30_11⟩ := zf12 BK119
  go_wp2
  go_loopg [66] kj6 (fun kq v66 w' => ∃ (x66_2 : Int), v66 = .int .i64 x66_2 ∧ Aside0 (asset_checkOne.l0 kq l0_11 (l0_11.length : Int) x66_2 a0_0 a0_1 a0_2 a0_3 a0_4 a0_5 a0_6 a0_7 a0_8 a0_9 a0_10 l0_11 = some r) ∧ Aside0 (kq ≤ kj6) ∧ Aside0 (w'.heap[gb119]? = some (.cells #[.string a0_0, .bool a0_1, .int .u64 a0_2, .int .u64 a0_3, .int .i64 a0_4, .int .i64 a0_5, .int .i64 a0_6, .int .i64 a0_7, .int .i64 a0_8, .bool a0_9, .int .i64 a0_10, (.slice A0_11 l0_11.length c0_11)] 36 (0, 0))) ∧ Aside0 (Below w.heap.size w w'))
  case atStart => exact ⟨(0), zI, H', ⟨Nat.le_refl _⟩, ⟨zK BK119⟩, ⟨zB HB⟩⟩
  case round =>
   clear H'
   (try clear c17); (try clear c18); (try clear c18b0); (try clear c20); (try clear c20b0); (try clear c22); (try clear c22b0); (try clear c24); (try clear c24b0); (try clear c26); (try clear c26b0); (try clear c28); (try clear c28b0); (try clear hcz30_0 hcz30_1 hcz30_10 hcz30_11 hcz30_2 hcz30_3 hcz30_4 hcz30_5 hcz30_6 hcz30_7 hcz30_8 hcz30_9); (try clear hfz30_0 hfz30_1 hfz30_10 hfz30_11 hfz30_2 hfz30_3 hfz30_4 hfz30_5 hfz30_6 hfz30_7 hfz30_8 hfz30_9)
   obtain ⟨x66_2, rfl, HA, HK2, BK119, HB⟩ := hrel
   rcases gk with _ | k2
   · exact absurd HA.out (by simp [asset_checkOne.l0])
   have H := HA.out
   clear HA
   simp only [asset_checkOne.l0] at H
   by_cases c31 : x66_2 < (l0_11.length : Int)
   rotate_left
   · rw [if_neg c31] at H
     have c31b0 : decide (x66_2 < (l0_11.length : Int)) = false := decide_eq_false c31; clear c31
     replace H := Option.bind_eq_some_iff.mp H
     obtain ⟨t123, A770, H⟩ := H
     try dsimp only at H
     have A77 := Aside0.mk A770; clear A770
     by_cases c78 : t123 = true
     · subst c78
       rw [if_pos rfl] at H
       obtain rfl := Option.some.inj H
       obtain ⟨hcz79_0, hcz79_1, hcz79_2, hcz79_3, hcz79_4, hcz79_5, hcz79_6, hcz79_7, hcz79_8, hcz79_9, hcz79_10, hcz79_11⟩ := zc12 BK119; obtain ⟨hfz79_0, hfz79_1, hfz79_2, hfz79_3, hfz79_4, hfz79_5, hfz79_6, hfz79_7, hfz79_8, hfz79_9, hfz79_10, hfz79_11⟩ := zf12 BK119
       go_wp2_with (first | ((with_reducible refine gate_callee (f := 56) rfl ?_); refine zgl 101 Tryz.func56 #[.agg #[.bool a0_1, .int .u64 a0_2, .int .u64 a0_3, .int .i64 a0_4]] ?_; (with_reducible refine (address_ValidPrefix.calls a0_1 a0_2 a0_3 a0_4 true _ A77.out).mono ?_); rintro e w80 ⟨rfl, hb⟩; refine ⟨_, rfl, ?_⟩; replace BK119 := zkb BK119 hb; replace HB := Aside0.mk (below_step (zB HB) hb); (try clear hb)))
       go_ret
       exact ⟨zr, zB HB⟩
     replace c78 := Bool.eq_false_iff.mpr c78
     subst c78; rw [if_neg zF] at H
     obtain rfl := Option.some.inj H
     obtain ⟨hcz81_0, hcz81_1, hcz81_2, hcz81_3, hcz81_4, hcz81_5, hcz81_6, hcz81_7, hcz81_8, hcz81_9, hcz81_10, hcz81_11⟩ := zc12 BK119; obtain ⟨hfz81_0, hfz81_1, hfz81_2, hfz81_3, hfz81_4, hfz81_5, hfz81_6, hfz81_7, hfz81_8, hfz81_9, hfz81_10, hfz81_11⟩ := zf12 BK119
     go_wp2_with (first | ((with_reducible refine gate_callee (f := 56) rfl ?_); refine zgl 101 Tryz.func56 #[.agg #[.bool a0_1, .int .u64 a0_2, .int .u64 a0_3, .int .i64 a0_4]] ?_; (with_reducible refine (address_ValidPrefix.calls a0_1 a0_2 a0_3 a0_4 false _ A77.out).mono ?_); rintro e w82 ⟨rfl, hb⟩; refine ⟨_, rfl, ?_⟩; replace BK119 := zkb BK119 hb; replace HB := Aside0.mk (below_step (zB HB) hb); (try clear hb)))
     go_ret
     exact ⟨zr, zB HB⟩
   rw [if_pos c31] at H
   have c31b0 : decide (x66_2 < (l0_11.length : Int)) = true := decide_eq_true c31; clear c31
   by_cases c32 : 0 ≤ x66_2
   rotate_left
   · rw [if_neg c32] at H
     exact absurd H (by simp)
   rw [if_pos c32] at H
   have c32b0 : decide (0 ≤ x66_2) = true := decide_eq_true c32; clear c32
   by_cases c33 : x66_2 < (l0_11.length : Int)
   rotate_left
   · rw [if_neg c33] at H
     exact absurd H (by simp)
   rw [if_pos c33] at H
   have c33b0 : decide (x66_2 < (l0_11.length : Int)) = true := decide_eq_true c33; clear c33
   by_cases c34 : ((rd_T74 l0_11 x66_2).f0) = 6
   · rw [if_pos c34] at H
     have c34b0 : (((rd_T74 l0_11 x66_2).f0) == 6) = true := beq_iff_eq.mpr c34; have c34b1 : (((rd_T74 l0_11 x66_2).f0) != 6) = false := bne_eq_false_iff_eq.mpr c34; clear c34
     by_cases c35 : ((rd_T74 l0_11 x66_2).f1) < 0
     · rw [if_pos c35] at H
       have c35b0 : decide (((rd_T74 l0_11 x66_2).f1) < 0) = true := decide_eq_true c35; clear c35
       obtain rfl := Option.some.inj H
       have p121 : 0 ≤ (x66_2 : Int) := za
       have q121 : x66_2 < (l0_11.length : Int) := za
       obtain ⟨ad121, e121, hx121_0, hx121_1, hx121_2⟩ := at_T74 HR0_11.out x66_2 p121 q121
       cases e121
       replace hx121_0 := zh HB hx121_0; replace hx121_1 := zh HB hx121_1; replace hx121_2 := zh HB hx121_2
       replace p121 := eq_true p121
       replace q121 := eq_true q121
       go_wp2_with (first | ((with_reducible refine gate_dst (N := 4) rfl ?_); refine zx 4 #[.int .i64 0, .int .i64 0, .int .i64 0] 74 ?_; intro gb122 hg w36 hbox hb; have BK122 := Aside0.mk (hbox); have GW122 := zG HB hg; have GE122 := zG HB hg; replace HB := Aside0.mk (below_step (zB HB) hb); have NB119_122 := Aside0.mk ((by rw [hg]; exact Nat.ne_of_lt (blk_lt (g := gb119) (o := .cells #[.string a0_0, .bool a0_1, .int .u64 a0_2, .int .u64 a0_3, .int .i64 a0_4, .int .i64 a0_5, .int .i64 a0_6, .int .i64 a0_7, .int .i64 a0_8, .bool a0_9, .int .i64 a0_10, .slice (some ad121) l0_11.length c0_11] 36 (0, 0)) (zK BK119)) : gb119 ≠ gb122)); have NB122_119 := Aside0.mk ((by rw [hg]; exact Nat.ne_of_gt (blk_lt (g := gb119) (o := .cells #[.string a0_0, .bool a0_1, .int .u64 a0_2, .int .u64 a0_3, .int .i64 a0_4, .int .i64 a0_5, .int .i64 a0_6, .int .i64 a0_7, .int .i64 a0_8, .bool a0_9, .int .i64 a0_10, .slice (some ad121) l0_11.length c0_11] 36 (0, 0)) (zK BK119)) : gb122 ≠ gb119)); replace BK119 := zkb BK119 hb; clear hb hbox hg; have hnb37 := NB122_119.out; have hnc37 := NB119_122.out; obtain ⟨hcz38_0, hcz38_1, hcz38_2⟩ := zc3 BK122; obtain ⟨hfz38_0, hfz38_1, hfz38_2⟩ := zf3 BK122))
       go_ret
       exact ⟨zr, zB HB⟩
     rw [if_neg c35] at H
     have c35b0 : decide (((rd_T74 l0_11 x66_2).f1) < 0) = false := decide_eq_false c35; clear c35
     by_cases c39 : ((rd_T74 l0_11 x66_2).f1) > 65535
     · rw [if_pos c39] at H
       have c39b0 : decide (65535 < ((rd_T74 l0_11 x66_2).f1)) = true := decide_eq_true c39; clear c39
       obtain rfl := Option.some.inj H
       have p121 : 0 ≤ (x66_2 : Int) := za
       have q121 : x66_2 < (l0_11.length : Int) := za
       obtain ⟨ad121, e121, hx121_0, hx121_1, hx121_2⟩ := at_T74 HR0_11.out x66_2 p121 q121
       cases e121
       replace hx121_0 := zh HB hx121_0; replace hx121_1 := zh HB hx121_1; replace hx121_2 := zh HB hx121_2
       replace p121 := eq_true p121
       replace q121 := eq_true q121
       go_wp2_with (first | ((with_reducible refine gate_dst (N := 4) rfl ?_); refine zx 4 #[.int .i64 0, .int .i64 0, .int .i64 0] 74 ?_; intro gb122 hg w40 hbox hb; have BK122 := Aside0.mk (hbox); have GW122 := zG HB hg; have GE122 := zG HB hg; replace HB := Aside0.mk (below_step (zB HB) hb); have NB119_122 := Aside0.mk ((by rw [hg]; exact Nat.ne_of_lt (blk_lt (g := gb119) (o := .cells #[.string a0_0, .bool a0_1, .int .u64 a0_2, .int .u64 a0_3, .int .i64 a0_4, .int .i64 a0_5, .int .i64 a0_6, .int .i64 a0_7, .int .i64 a0_8, .bool a0_9, .int .i64 a0_10, .slice (some ad121) l0_11.length c0_11] 36 (0, 0)) (zK BK119)) : gb119 ≠ gb122)); have NB122_119 := Aside0.mk ((by rw [hg]; exact Nat.ne_of_gt (blk_lt (g := gb119) (o := .cells #[.string a0_0, .bool a0_1, .int .u64 a0_2, .int .u64 a0_3, .int .i64 a0_4, .int .i64 a0_5, .int .i64 a0_6, .int .i64 a0_7, .int .i64 a0_8, .bool a0_9, .int .i64 a0_10, .slice (some ad121) l0_11.length c0_11] 36 (0, 0)) (zK BK119)) : gb122 ≠ gb119)); replace BK119 := zkb BK119 hb; clear hb hbox hg; have hnb41 := NB122_119.out; have hnc41 := NB119_122.out; obtain ⟨hcz42_0, hcz42_1, hcz42_2⟩ := zc3 BK122; obtain ⟨hfz42_0, hfz42_1, hfz42_2⟩ := zf3 BK122))
       go_ret
       exact ⟨zr, zB HB⟩
     rw [if_neg c39] at H
     have c39b0 : decide (65535 < ((rd_T74 l0_11 x66_2).f1)) = false := decide_eq_false c39; clear c39
     by_cases c43 : ((rd_T74 l0_11 x66_2).f2) < 0
     · rw [if_pos c43] at H
       have c43b0 : decide (((rd_T74 l0_11 x66_2).f2) < 0) = true := decide_eq_true c43; clear c43
       obtain rfl := Option.some.inj H
       have p121 : 0 ≤ (x66_2 : Int) := za
       have q121 : x66_2 < (l0_11.length : Int) := za
       obtain ⟨ad121, e121, hx121_0, hx121_1, hx121_2⟩ := at_T74 HR0_11.out x66_2 p121 q121
       cases e121
       replace hx121_0 := zh HB hx121_0; replace hx121_1 := zh HB hx121_1; replace hx121_2 := zh HB hx121_2
       replace p121 := eq_true p121
       replace q121 := eq_true q121
       go_wp2_with (first | ((with_reducible refine gate_dst (N := 4) rfl ?_); refine zx 4 #[.int .i64 0, .int .i64 0, .int .i64 0] 74 ?_; intro gb122 hg w44 hbox hb; have BK122 := Aside0.mk (hbox); have GW122 := zG HB hg; have GE122 := zG HB hg; replace HB := Aside0.mk (below_step (zB HB) hb); have NB119_122 := Aside0.mk ((by rw [hg]; exact Nat.ne_of_lt (blk_lt (g := gb119) (o := .cells #[.string a0_0, .bool a0_1, .int .u64 a0_2, .int .u64 a0_3, .int .i64 a0_4, .int .i64 a0_5, .int .i64 a0_6, .int .i64 a0_7, .int .i64 a0_8, .bool a0_9, .int .i64 a0_10, .slice (some ad121) l0_11.length c0_11] 36 (0, 0)) (zK BK119)) : gb119 ≠ gb122)); have NB122_119 := Aside0.mk ((by rw [hg]; exact Nat.ne_of_gt (blk_lt (g := gb119) (o := .cells #[.string a0_0, .bool a0_1, .int .u64 a0_2, .int .u64 a0_3, .int .i64 a0_4, .int .i64 a0_5, .int .i64 a0_6, .int .i64 a0_7, .int .i64 a0_8, .bool a0_9, .int .i64 a0_10, .slice (some ad121) l0_11.length c0_11] 36 (0, 0)) (zK BK119)) : gb122 ≠ gb119)); replace BK119 := zkb BK119 hb; clear hb hbox hg; have hnb45 := NB122_119.out; have hnc45 := NB119_122.out; obtain ⟨hcz46_0, hcz46_1, hcz46_2⟩ := zc3 BK122; obtain ⟨hfz46_0, hfz46_1, hfz46_2⟩ := zf3 BK122))
       go_ret
       exact ⟨zr, zB HB⟩
     rw [if_neg c43] at H
     have c43b0 : decide (((rd_T74 l0_11 x66_2).f2) < 0) = false := decide_eq_false c43; clear c43
     by_cases c47 : ((rd_T74 l0_11 x66_2).f2) > 4
     · rw [if_pos c47] at H
       have c47b0 : decide (4 < ((rd_T74 l0_11 x66_2).f2)) = true := decide_eq_true c47; clear c47
       obtain rfl := Option.some.inj H
       have p121 : 0 ≤ (x66_2 : Int) := za
       have q121 : x66_2 < (l0_11.length : Int) := za
       obtain ⟨ad121, e121, hx121_0, hx121_1, hx121_2⟩ := at_T74 HR0_11.out x66_2 p121 q121
       cases e121
       replace hx121_0 := zh HB hx121_0; replace hx121_1 := zh HB hx121_1; replace hx121_2 := zh HB hx121_2
       replace p121 := eq_true p121
       replace q121 := eq_true q121
       go_wp2_with (first | ((with_reducible refine gate_dst (N := 4) rfl ?_); refine zx 4 #[.int .i64 0, .int .i64 0, .int .i64 0] 74 ?_; intro gb122 hg w48 hbox hb; have BK122 := Aside0.mk (hbox); have GW122 := zG HB hg; have GE122 := zG HB hg; replace HB := Aside0.mk (below_step (zB HB) hb); have NB119_122 := Aside0.mk ((by rw [hg]; exact Nat.ne_of_lt (blk_lt (g := gb119) (o := .cells #[.string a0_0, .bool a0_1, .int .u64 a0_2, .int .u64 a0_3, .int .i64 a0_4, .int .i64 a0_5, .int .i64 a0_6, .int .i64 a0_7, .int .i64 a0_8, .bool a0_9, .int .i64 a0_10, .slice (some ad121) l0_11.length c0_11] 36 (0, 0)) (zK BK119)) : gb119 ≠ gb122)); have NB122_119 := Aside0.mk ((by rw [hg]; exact Nat.ne_of_gt (blk_lt (g := gb119) (o := .cells #[.string a0_0, .bool a0_1, .int .u64 a0_2, .int .u64 a0_3, .int .i64 a0_4, .int .i64 a0_5, .int .i64 a0_6, .int .i64 a0_7, .int .i64 a0_8, .bool a0_9, .int .i64 a0_10, .slice (some ad121) l0_11.length c0_11] 36 (0, 0)) (zK BK119)) : gb122 ≠ gb119)); replace BK119 := zkb BK119 hb; clear hb hbox hg; have hnb49 := NB122_119.out; have hnc49 := NB119_122.out; obtain ⟨hcz50_0, hcz50_1, hcz50_2⟩ := zc3 BK122; obtain ⟨hfz50_0, hfz50_1, hfz50_2⟩ := zf3 BK122))
       go_ret
       exact ⟨zr, zB HB⟩
     rw [if_neg c47] at H
     have c47b0 : decide (4 < ((rd_T74 l0_11 x66_2).f2)) = false := decide_eq_false c47; clear c47
     have H' := Aside0.mk H
     clear H
     have p121 : 0 ≤ (x66_2 : Int) := za
     have q121 : x66_2 < (l0_11.length : Int) := za
     obtain ⟨ad121, e121, hx121_0, hx121_1, hx121_2⟩ := at_T74 HR0_11.out x66_2 p121 q121
     cases e121
     replace hx121_0 := zh HB hx121_0; replace hx121_1 := zh HB hx121_1; replace hx121_2 := zh HB hx121_2
     replace p121 := eq_true p121
     replace q121 := eq_true q121
     go_wp2_with (first | ((with_reducible refine gate_dst (N := 4) rfl ?_); refine zx 4 #[.int .i64 0, .int .i64 0, .int .i64 0] 74 ?_; intro gb122 hg w51 hbox hb; have BK122 := Aside0.mk (hbox); have GW122 := zG HB hg; have GE122 := zG HB hg; replace HB := Aside0.mk (below_step (zB HB) hb); have NB119_122 := Aside0.mk ((by rw [hg]; exact Nat.ne_of_lt (blk_lt (g := gb119) (o := .cells #[.string a0_0, .bool a0_1, .int .u64 a0_2, .int .u64 a0_3, .int .i64 a0_4, .int .i64 a0_5, .int .i64 a0_6, .int .i64 a0_7, .int .i64 a0_8, .bool a0_9, .int .i64 a0_10, .slice (some ad121) l0_11.length c0_11] 36 (0, 0)) (zK BK119)) : gb119 ≠ gb122)); have NB122_119 := Aside0.mk ((by rw [hg]; exact Nat.ne_of_gt (blk_lt (g := gb119) (o := .cells #[.string a0_0, .bool a0_1, .int .u64 a0_2, .int .u64 a0_3, .int .i64 a0_4, .int .i64 a0_5, .int .i64 a0_6, .int .i64 a0_7, .int .i64 a0_8, .bool a0_9, .int .i64 a0_10, .slice (some ad121) l0_11.length c0_11] 36 (0, 0)) (zK BK119)) : gb122 ≠ gb119)); replace BK119 := zkb BK119 hb; clear hb hbox hg; have hnb52 := NB122_119.out; have hnc52 := NB119_122.out; obtain ⟨hcz53_0, hcz53_1, hcz53_2⟩ := zc3 BK122; obtain ⟨hfz53_0, hfz53_1, hfz53_2⟩ := zf3 BK122))
     go_roundg k2
     case measure => have := HJ6.out; have := HK2.out; omega
     case rel => exact ⟨(wrap64 (x66_2 + 1)), zI, H', ⟨by have := HJ6.out; have := HK2.out; omega⟩, ⟨by refine zL ?_; refine blk_far ?_ NB119_122.out _; refine zL ?_; refine blk_far ?_ NB119_122.out _; refine zL ?_; refine blk_far ?_ NB119_122.out _; refine zL ?_; exact BK119.out⟩, ⟨zB HB⟩⟩
   rw [if_neg c34] at H
   have c34b0 : (((rd_T74 l0_11 x66_2).f0) == 6) = false := beq_eq_false_iff_ne.mpr c34
   have c34b1 : (((rd_T74 l0_11 x66_2).f0) != 6) = true := bne_iff_ne.mpr c34
   by_cases c54 : ((rd_T74 l0_11 x66_2).f0) = 17
   rotate_left
   · rw [if_neg c54] at H
     have c54b0 : (((rd_T74 l0_11 x66_2).f0) == 17) = false := beq_eq_false_iff_ne.mpr c54
     have c54b1 : (((rd_T74 l0_11 x66_2).f0) != 17) = true := bne_iff_ne.mpr c54
     obtain rfl := Option.some.inj H
     have p121 : 0 ≤ (x66_2 : Int) := za
     have q121 : x66_2 < (l0_11.length : Int) := za
     obtain ⟨ad121, e121, hx121_0, hx121_1, hx121_2⟩ := at_T74 HR0_11.out x66_2 p121 q121
     cases e121
     replace hx121_0 := zh HB hx121_0; replace hx121_1 := zh HB hx121_1; replace hx121_2 := zh HB hx121_2
     replace p121 := eq_true p121
     replace q121 := eq_true q121
     go_wp2_with (first | ((with_reducible refine gate_dst (N := 4) rfl ?_); refine zx 4 #[.int .i64 0, .int .i64 0, .int .i64 0] 74 ?_; intro gb122 hg w74 hbox hb; have BK122 := Aside0.mk (hbox); have GW122 := zG HB hg; have GE122 := zG HB hg; replace HB := Aside0.mk (below_step (zB HB) hb); have NB119_122 := Aside0.mk ((by rw [hg]; exact Nat.ne_of_lt (blk_lt (g := gb119) (o := .cells #[.string a0_0, .bool a0_1, .int .u64 a0_2, .int .u64 a0_3, .int .i64 a0_4, .int .i64 a0_5, .int .i64 a0_6, .int .i64 a0_7, .int .i64 a0_8, .bool a0_9, .int .i64 a0_10, .slice (some ad121) l0_11.length c0_11] 36 (0, 0)) (zK BK119)) : gb119 ≠ gb122)); have NB122_119 := Aside0.mk ((by rw [hg]; exact Nat.ne_of_gt (blk_lt (g := gb119) (o := .cells #[.string a0_0, .bool a0_1, .int .u64 a0_2, .int .u64 a0_3, .int .i64 a0_4, .int .i64 a0_5, .int .i64 a0_6, .int .i64 a0_7, .int .i64 a0_8, .bool a0_9, .int .i64 a0_10, .slice (some ad121) l0_11.length c0_11] 36 (0, 0)) (zK BK119)) : gb122 ≠ gb119)); replace BK119 := zkb BK119 hb; clear hb hbox hg; have hnb75 := NB122_119.out; have hnc75 := NB119_122.out; obtain ⟨hcz76_0, hcz76_1, hcz76_2⟩ := zc3 BK122; obtain ⟨hfz76_0, hfz76_1, hfz76_2⟩ := zf3 BK122))
     go_ret
     exact ⟨zr, zB HB⟩
   rw [if_pos c54] at H
   have c54b0 : (((rd_T74 l0_11 x66_2).f0) == 17) = true := beq_iff_eq.mpr c54; have c54b1 : (((rd_T74 l0_11 x66_2).f0) != 17) = false := bne_eq_false_iff_eq.mpr c54; clear c54
   by_cases c55 : ((rd_T74 l0_11 x66_2).f1) < 0
   · rw [if_pos c55] at H
     have c55b0 : decide (((rd_T74 l0_11 x66_2).f1) < 0) = true := decide_eq_true c55; clear c55
     obtain rfl := Option.some.inj H
     have p121 : 0 ≤ (x66_2 : Int) := za
     have q121 : x66_2 < (l0_11.length : Int) := za
     obtain ⟨ad121, e121, hx121_0, hx121_1, hx121_2⟩ := at_T74 HR0_11.out x66_2 p121 q121
     cases e121
     replace hx121_0 := zh HB hx121_0; replace hx121_1 := zh HB hx121_1; replace hx121_2 := zh HB hx121_2
     replace p121 := eq_true p121
     replace q121 := eq_true q121
     go_wp2_with (first | ((with_reducible refine gate_dst (N := 4) rfl ?_); refine zx 4 #[.int .i64 0, .int .i64 0, .int .i64 0] 74 ?_; intro gb122 hg w56 hbox hb; have BK122 := Aside0.mk (hbox); have GW122 := zG HB hg; have GE122 := zG HB hg; replace HB := Aside0.mk (below_step (zB HB) hb); have NB119_122 := Aside0.mk ((by rw [hg]; exact Nat.ne_of_lt (blk_lt (g := gb119) (o := .cells #[.string a0_0, .bool a0_1, .int .u64 a0_2, .int .u64 a0_3, .int .i64 a0_4, .int .i64 a0_5, .int .i64 a0_6, .int .i64 a0_7, .int .i64 a0_8, .bool a0_9, .int .i64 a0_10, .slice (some ad121) l0_11.length c0_11] 36 (0, 0)) (zK BK119)) : gb119 ≠ gb122)); have NB122_119 := Aside0.mk ((by rw [hg]; exact Nat.ne_of_gt (blk_lt (g := gb119) (o := .cells #[.string a0_0, .bool a0_1, .int .u64 a0_2, .int .u64 a0_3, .int .i64 a0_4, .int .i64 a0_5, .int .i64 a0_6, .int .i64 a0_7, .int .i64 a0_8, .bool a0_9, .int .i64 a0_10, .slice (some ad121) l0_11.length c0_11] 36 (0, 0)) (zK BK119)) : gb122 ≠ gb119)); replace BK119 := zkb BK119 hb; clear hb hbox hg; have hnb57 := NB122_119.out; have hnc57 := NB119_122.out; obtain ⟨hcz58_0, hcz58_1, hcz58_2⟩ := zc3 BK122; obtain ⟨hfz58_0, hfz58_1, hfz58_2⟩ := zf3 BK122))
     go_ret
     exact ⟨zr, zB HB⟩
   rw [if_neg c55] at H
   have c55b0 : decide (((rd_T74 l0_11 x66_2).f1) < 0) = false := decide_eq_false c55; clear c55
   by_cases c59 : ((rd_T74 l0_11 x66_2).f1) > 65535
   · rw [if_pos c59] at H
     have c59b0 : decide (65535 < ((rd_T74 l0_11 x66_2).f1)) = true := decide_eq_true c59; clear c59
     obtain rfl := Option.some.inj H
     have p121 : 0 ≤ (x66_2 : Int) := za
     have q121 : x66_2 < (l0_11.length : Int) := za
     obtain ⟨ad121, e121, hx121_0, hx121_1, hx121_2⟩ := at_T74 HR0_11.out x66_2 p121 q121
     cases e121
     replace hx121_0 := zh HB hx121_0; replace hx121_1 := zh HB hx121_1; replace hx121_2 := zh HB hx121_2
     replace p121 := eq_true p121
     replace q121 := eq_true q121
     go_wp2_with (first | ((with_reducible refine gate_dst (N := 4) rfl ?_); refine zx 4 #[.int .i64 0, .int .i64 0, .int .i64 0] 74 ?_; intro gb122 hg w60 hbox hb; have BK122 := Aside0.mk (hbox); have GW122 := zG HB hg; have GE122 := zG HB hg; replace HB := Aside0.mk (below_step (zB HB) hb); have NB119_122 := Aside0.mk ((by rw [hg]; exact Nat.ne_of_lt (blk_lt (g := gb119) (o := .cells #[.string a0_0, .bool a0_1, .int .u64 a0_2, .int .u64 a0_3, .int .i64 a0_4, .int .i64 a0_5, .int .i64 a0_6, .int .i64 a0_7, .int .i64 a0_8, .bool a0_9, .int .i64 a0_10, .slice (some ad121) l0_11.length c0_11] 36 (0, 0)) (zK BK119)) : gb119 ≠ gb122)); have NB122_119 := Aside0.mk ((by rw [hg]; exact Nat.ne_of_gt (blk_lt (g := gb119) (o := .cells #[.string a0_0, .bool a0_1, .int .u64 a0_2, .int .u64 a0_3, .int .i64 a0_4, .int .i64 a0_5, .int .i64 a0_6, .int .i64 a0_7, .int .i64 a0_8, .bool a0_9, .int .i64 a0_10, .slice (some ad121) l0_11.length c0_11] 36 (0, 0)) (zK BK119)) : gb122 ≠ gb119)); replace BK119 := zkb BK119 hb; clear hb hbox hg; have hnb61 := NB122_119.out; have hnc61 := NB119_122.out; obtain ⟨hcz62_0, hcz62_1, hcz62_2⟩ := zc3 BK122; obtain ⟨hfz62_0, hfz62_1, hfz62_2⟩ := zf3 BK122))
     go_ret
     exact ⟨zr, zB HB⟩
   rw [if_neg c59] at H
   have c59b0 : decide (65535 < ((rd_T74 l0_11 x66_2).f1)) = false := decide_eq_false c59; clear c59
   by_cases c63 : ((rd_T74 l0_11 x66_2).f2) < 0
   · rw [if_pos c63] at H
     have c63b0 : decide (((rd_T74 l0_11 x66_2).f2) < 0) = true := decide_eq_true c63; clear c63
     obtain rfl := Option.some.inj H
     have p121 : 0 ≤ (x66_2 : Int) := za
     have q121 : x66_2 < (l0_11.length : Int) := za
     obtain ⟨ad121, e121, hx121_0, hx121_1, hx121_2⟩ := at_T74 HR0_11.out x66_2 p121 q121
     cases e121
     replace hx121_0 := zh HB hx121_0; replace hx121_1 := zh HB hx121_1; replace hx121_2 := zh HB hx121_2
     replace p121 := eq_true p121
     replace q121 := eq_true q121
     go_wp2_with (first | ((with_reducible refine gate_dst (N := 4) rfl ?_); refine zx 4 #[.int .i64 0, .int .i64 0, .int .i64 0] 74 ?_; intro gb122 hg w64 hbox hb; have BK122 := Aside0.mk (hbox); have GW122 := zG HB hg; have GE122 := zG HB hg; replace HB := Aside0.mk (below_step (zB HB) hb); have NB119_122 := Aside0.mk ((by rw [hg]; exact Nat.ne_of_lt (blk_lt (g := gb119) (o := .cells #[.string a0_0, .bool a0_1, .int .u64 a0_2, .int .u64 a0_3, .int .i64 a0_4, .int .i64 a0_5, .int .i64 a0_6, .int .i64 a0_7, .int .i64 a0_8, .bool a0_9, .int .i64 a0_10, .slice (some ad121) l0_11.length c0_11] 36 (0, 0)) (zK BK119)) : gb119 ≠ gb122)); have NB122_119 := Aside0.mk ((by rw [hg]; exact Nat.ne_of_gt (blk_lt (g := gb119) (o := .cells #[.string a0_0, .bool a0_1, .int .u64 a0_2, .int .u64 a0_3, .int .i64 a0_4, .int .i64 a0_5, .int .i64 a0_6, .int .i64 a0_7, .int .i64 a0_8, .bool a0_9, .int .i64 a0_10, .slice (some ad121) l0_11.length c0_11] 36 (0, 0)) (zK BK119)) : gb122 ≠ gb119)); replace BK119 := zkb BK119 hb; clear hb hbox hg; have hnb65 := NB122_119.out; have hnc65 := NB119_122.out; obtain ⟨hcz66_0, hcz66_1, hcz66_2⟩ := zc3 BK122; obtain ⟨hfz66_0, hfz66_1, hfz66_2⟩ := zf3 BK122))
     go_ret
     exact ⟨zr, zB HB⟩
   rw [if_neg c63] at H
   have c63b0 : decide (((rd_T74 l0_11 x66_2).f2) < 0) = false := decide_eq_false c63; clear c63
   by_cases c67 : ((rd_T74 l0_11 x66_2).f2) > 4
   · rw [if_pos c67] at H
     have c67b0 : decide (4 < ((rd_T74 l0_11 x66_2).f2)) = true := decide_eq_true c67; clear c67
     obtain rfl := Option.some.inj H
     have p121 : 0 ≤ (x66_2 : Int) := za
     have q121 : x66_2 < (l0_11.length : Int) := za
     obtain ⟨ad121, e121, hx121_0, hx121_1, hx121_2⟩ := at_T74 HR0_11.out x66_2 p121 q121
     cases e121
     replace hx121_0 := zh HB hx121_0; replace hx121_1 := zh HB hx121_1; replace hx121_2 := zh HB hx121_2
     replace p121 := eq_true p121
     replace q121 := eq_true q121
     go_wp2_with (first | ((with_reducible refine gate_dst (N := 4) rfl ?_); refine zx 4 #[.int .i64 0, .int .i64 0, .int .i64 0] 74 ?_; intro gb122 hg w68 hbox hb; have BK122 := Aside0.mk (hbox); have GW122 := zG HB hg; have GE122 := zG HB hg; replace HB := Aside0.mk (below_step (zB HB) hb); have NB119_122 := Aside0.mk ((by rw [hg]; exact Nat.ne_of_lt (blk_lt (g := gb119) (o := .cells #[.string a0_0, .bool a0_1, .int .u64 a0_2, .int .u64 a0_3, .int .i64 a0_4, .int .i64 a0_5, .int .i64 a0_6, .int .i64 a0_7, .int .i64 a0_8, .bool a0_9, .int .i64 a0_10, .slice (some ad121) l0_11.length c0_11] 36 (0, 0)) (zK BK119)) : gb119 ≠ gb122)); have NB122_119 := Aside0.mk ((by rw [hg]; exact Nat.ne_of_gt (blk_lt (g := gb119) (o := .cells #[.string a0_0, .bool a0_1, .int .u64 a0_2, .int .u64 a0_3, .int .i64 a0_4, .int .i64 a0_5, .int .i64 a0_6, .int .i64 a0_7, .int .i64 a0_8, .bool a0_9, .int .i64 a0_10, .slice (some ad121) l0_11.length c0_11] 36 (0, 0)) (zK BK119)) : gb122 ≠ gb119)); replace BK119 := zkb BK119 hb; clear hb hbox hg; have hnb69 := NB122_119.out; have hnc69 := NB119_122.out; obtain ⟨hcz70_0, hcz70_1, hcz70_2⟩ := zc3 BK122; obtain ⟨hfz70_0, hfz70_1, hfz70_2⟩ := zf3 BK122))
     go_ret
     exact ⟨zr, zB HB⟩
   rw [if_neg c67] at H
   have c67b0 : decide (4 < ((rd_T74 l0_11 x66_2).f2)) = false := decide_eq_false c67; clear c67
   have H' := Aside0.mk H
   clear H
   have p121 : 0 ≤ (x66_2 : Int) := za
   have q121 : x66_2 < (l0_11.length : Int) := za
   obtain ⟨ad121, e121, hx121_0, hx121_1, hx121_2⟩ := at_T74 HR0_11.out x66_2 p121 q121
   cases e121
   replace hx121_0 := zh HB hx121_0; replace hx121_1 := zh HB hx121_1; replace hx121_2 := zh HB hx121_2
   replace p121 := eq_true p121
   replace q121 := eq_true q121
   go_wp2_with (first | ((with_reducible refine gate_dst (N := 4) rfl ?_); refine zx 4 #[.int .i64 0, .int .i64 0, .int .i64 0] 74 ?_; intro gb122 hg w71 hbox hb; have BK122 := Aside0.mk (hbox); have GW122 := zG HB hg; have GE122 := zG HB hg; replace HB := Aside0.mk (below_step (zB HB) hb); have NB119_122 := Aside0.mk ((by rw [hg]; exact Nat.ne_of_lt (blk_lt (g := gb119) (o := .cells #[.string a0_0, .bool a0_1, .int .u64 a0_2, .int .u64 a0_3, .int .i64 a0_4, .int .i64 a0_5, .int .i64 a0_6, .int .i64 a0_7, .int .i64 a0_8, .bool a0_9, .int .i64 a0_10, .slice (some ad121) l0_11.length c0_11] 36 (0, 0)) (zK BK119)) : gb119 ≠ gb122)); have NB122_119 := Aside0.mk ((by rw [hg]; exact Nat.ne_of_gt (blk_lt (g := gb119) (o := .cells #[.string a0_0, .bool a0_1, .int .u64 a0_2, .int .u64 a0_3, .int .i64 a0_4, .int .i64 a0_5, .int .i64 a0_6, .int .i64 a0_7, .int .i64 a0_8, .bool a0_9, .int .i64 a0_10, .slice (some ad121) l0_11.length c0_11] 36 (0, 0)) (zK BK119)) : gb122 ≠ gb119)); replace BK119 := zkb BK119 hb; clear hb hbox hg; have hnb72 := NB122_119.out; have hnc72 := NB119_122.out; obtain ⟨hcz73_0, hcz73_1, hcz73_2⟩ := zc3 BK122; obtain ⟨hfz73_0, hfz73_1, hfz73_2⟩ := zf3 BK122))
   go_roundg k2
   case measure => have := HJ6.out; have := HK2.out; omega
   case rel => exact ⟨(wrap64 (x66_2 + 1)), zI, H', ⟨by have := HJ6.out; have := HK2.out; omega⟩, ⟨by refine zL ?_; refine blk_far ?_ NB119_122.out _; refine zL ?_; refine blk_far ?_ NB119_122.out _; refine zL ?_; refine blk_far ?_ NB119_122.out _; refine zL ?_; exact BK119.out⟩, ⟨zB HB⟩⟩
end Go.Proofs.YtnphnhkinjppjaaGreatDoor.Q
end

section
set_option maxHeartbeats 8000000
set_option maxRecDepth 100000
namespace Go.Proofs.YtnphnhkinjppjaaGreatDoor.Q
open Go.RowKit Go.Proofs.YtnphnhkinjppjaaGreatDoorW.PrintWords Go.Proofs.YtnphnhkinjppjaaGreatDoorW.PrintLast Go.Proofs.YtnphnhkinjppjaaGreatDoorW.PrintMore
attribute [local go_sem] max2_int min2_int max_two min_two max_three min_three max_four min_four
mutual
def asset_twice.l0 : Nat → List (S74) → List (S74) → Int → Int → Option (Bool)
  | 0, _, _, _, _ => none
  | k + 1, x0, x7, x8, x9 => if x9 < x8 then (if 0 ≤ x9 then (if x9 < (x7.length : Int) then (if x9 ≤ (x0.length : Int) then ((some (x0.take (x9 : Int).toNat : List (S74))).bind fun y127 => (asset_twice.l1 k x0 x7 x8 x9 y127 (y127.length : Int) 0 ((rd_T74 x7 x9).f0) ((rd_T74 x7 x9).f1) ((rd_T74 x7 x9).f2))) else (none)) else (none)) else (none)) else (some false)
def asset_twice.l1 : Nat → List (S74) → List (S74) → Int → Int → List (S74) → Int → Int → Int → Int → Int → Option (Bool)
  | 0, _, _, _, _, _, _, _, _, _, _ => none
  | k + 1, x0, x7, x8, x9, x16, x17, x18, x127000, x127001, x127002 => if x18 < x17 then (if 0 ≤ x18 then (if x18 < (x16.length : Int) then (if x127000 = ((rd_T74 x16 x18).f0) then (if x127001 = ((rd_T74 x16 x18).f1) then (some true) else (asset_twice.l1 k x0 x7 x8 x9 x16 x17 (wrap64 (x18 + 1)) x127000 x127001 x127002)) else (asset_twice.l1 k x0 x7 x8 x9 x16 x17 (wrap64 (x18 + 1)) x127000 x127001 x127002)) else (none)) else (none)) else (asset_twice.l0 k x0 x7 x8 (wrap64 (x9 + 1)))
end
def asset_twice.f (k : Nat) (l0 : List (S74)) : Option (Bool) := asset_twice.l0 k l0 l0 (l0.length : Int) 0
theorem asset_twice.mono_l : ∀ k, (∀ y0 y1 y2 y3, LeO (asset_twice.l0 k y0 y1 y2 y3) (asset_twice.l0 (k + 1) y0 y1 y2 y3)) ∧ (∀ y0 y1 y2 y3 y4 y5 y6 y7 y8 y9, LeO (asset_twice.l1 k y0 y1 y2 y3 y4 y5 y6 y7 y8 y9) (asset_twice.l1 (k + 1) y0 y1 y2 y3 y4 y5 y6 y7 y8 y9))
  | 0 => ⟨fun _ _ _ _ r h => by simp [asset_twice.l0] at h, fun _ _ _ _ _ _ _ _ _ _ r h => by simp [asset_twice.l1] at h⟩
  | k + 1 => by
    obtain ⟨ih0, ih1⟩ := asset_twice.mono_l k
    refine ⟨?_, ?_⟩
    · intro y0 y1 y2 y3
      unfold asset_twice.l0
      repeat' first
      | (with_reducible exact ih0 _ _ _ _)
      | (with_reducible exact ih1 _ _ _ _ _ _ _ _ _ _)
      | (with_reducible exact LeO.refl _)
      | (with_reducible exact LeO.none _)
      | (with_reducible refine LeO.ite ?_ ?_)
      | (with_reducible refine LeO.bind ?_ (fun _ => ?_))
    · intro y0 y1 y2 y3 y4 y5 y6 y7 y8 y9
      unfold asset_twice.l1
      repeat' first
      | (with_reducible exact ih0 _ _ _ _)
      | (with_reducible exact ih1 _ _ _ _ _ _ _ _ _ _)
      | (with_reducible exact LeO.refl _)
      | (with_reducible exact LeO.none _)
      | (with_reducible refine LeO.ite ?_ ?_)
      | (with_reducible refine LeO.bind ?_ (fun _ => ?_))
theorem asset_twice.mono : ∀ a0 k, LeO (asset_twice.f k a0) (asset_twice.f (k + 1) a0) := by
  intro a0 k
  obtain ⟨ih0, ih1⟩ := asset_twice.mono_l k
  unfold asset_twice.f
  repeat' first
      | (with_reducible exact ih0 _ _ _ _)
      | (with_reducible exact ih1 _ _ _ _ _ _ _ _ _ _)
      | (with_reducible exact LeO.refl _)
      | (with_reducible exact LeO.none _)
      | (with_reducible refine LeO.ite ?_ ?_)
      | (with_reducible refine LeO.bind ?_ (fun _ => ?_))
theorem asset_twice.calls (k : Nat) (A0 : Option Addr) (c0 : Nat) (l0 : List (S74)) (r : Bool) (w : World) (hr0 : Kd.C k74 w A0 l0.length l0) (hc0 : l0.length ≤ c0) (h : asset_twice.f k l0 = some r) :
 Calls Tryz.prog 33 #[.slice A0 l0.length c0] w fun e w' => e = .returned (.bool r) ∧ Below w.heap.size w w' := by
 have hu74 := Tryz.underlying74
 have HR0 := Aside0.mk hr0; have HC0 := Aside0.mk hc0; clear hr0 hc0; have HB := Aside0.mk (Below.refl w.heap.size w)
 unfold asset_twice.f at h; have H := h
 clear h
 have H' := Aside0.mk H
 clear H
 go_enter Tryz.func33, Tryz.ntmps33
 go_wp2
 go_loopg [9] k (fun kq v9 w' => ∃ (x9_1 : Int), v9 = .int .i64 x9_1 ∧ Aside0 (asset_twice.l0 kq l0 l0 (l0.length : Int) x9_1 = some r) ∧ Aside0 (kq ≤ k) ∧ Aside0 (Below w.heap.size w w'))
 case atStart => exact ⟨(0), zI, H', ⟨Nat.le_refl _⟩, ⟨zB HB⟩⟩
 case round =>
  clear H'
  obtain ⟨x9_1, rfl, HA, HK1, HB⟩ := hrel
  rcases gk with _ | k1
  · exact absurd HA.out (by simp [asset_twice.l0])
  have H := HA.out
  clear HA
  simp only [asset_twice.l0] at H
  by_cases c2 : x9_1 < (l0.length : Int)
  rotate_left
  · rw [if_neg c2] at H
    have c2b0 : decide (x9_1 < (l0.length : Int)) = false := decide_eq_false c2; clear c2
    obtain rfl := Option.some.inj H
    go_wp2
    go_ret
    exact ⟨zr, zB HB⟩
  rw [if_pos c2] at H
  have c2b0 : decide (x9_1 < (l0.length : Int)) = true := decide_eq_true c2; clear c2
  by_cases c3 : 0 ≤ x9_1
  rotate_left
  · rw [if_neg c3] at H
    exact absurd H (by simp)
  rw [if_pos c3] at H
  have c3b0 : decide (0 ≤ x9_1) = true := decide_eq_true c3; clear c3
  by_cases c4 : x9_1 < (l0.length : Int)
  rotate_left
  · rw [if_neg c4] at H
    exact absurd H (by simp)
  rw [if_pos c4] at H
  have c4b0 : decide (x9_1 < (l0.length : Int)) = true := decide_eq_true c4; clear c4
  have c5b0 := eq_true (of_decide_eq_true (by first | (with_reducible assumption) | assumption) : 0 ≤ x9_1)
  by_cases c6 : x9_1 ≤ (l0.length : Int)
  rotate_left
  · rw [if_neg c6] at H
    exact absurd H (by simp)
  rw [if_pos c6] at H
  have c6b0 := eq_true c6
  have c6b1 : decide (x9_1 ≤ (l0.length : Int)) = true := decide_eq_true c6; clear c6
  obtain ⟨y127, hy127⟩ : ∃ y_ : List (S74), y_ = (l0.take (x9_1 : Int).toNat) := ⟨_, rfl⟩
  rw [← hy127] at H; try dsimp only [Option.bind_some] at H
  have Ny127 := Aside0.mk hy127; clear hy127
  have H' := Aside0.mk H
  clear H
  have p125 : 0 ≤ (x9_1 : Int) := za
  have q125 : x9_1 < (l0.length : Int) := za
  obtain ⟨ad125, e125, hx125_0, hx125_1, hx125_2⟩ := at_T74 HR0.out x9_1 p125 q125
  cases e125
  replace hx125_0 := zh HB hx125_0; replace hx125_1 := zh HB hx125_1; replace hx125_2 := zh HB hx125_2
  replace p125 := eq_true p125
  replace q125 := eq_true q125
  go_wp2_with (first | ((with_reducible refine gate_dst (N := 4) rfl ?_); refine zx 4 #[.int .i64 0, .int .i64 0, .int .i64 0] 74 ?_; intro gb126 hg w7 hbox hb; have BK126 := Aside0.mk (hbox); have GW126 := zG HB hg; have GE126 := zG HB hg; replace HB := Aside0.mk (below_step (zB HB) hb); clear hb hbox hg; obtain ⟨hcz8_0, hcz8_1, hcz8_2⟩ := zc3 BK126; obtain ⟨hfz8_0, hfz8_1, hfz8_2⟩ := zf3 BK126) | ((with_reducible refine gate_store (t := 74) (p := 4) rfl ?_); refine store_event (t := 74) (p := 4) (v := ?vo_w9) (w1 := (((w7.setCell ⟨gb126, 0, none⟩ (.int .i64 ((rd_T74 l0 x9_1).f0))).setCell ⟨gb126, 1, none⟩ (.int .i64 ((rd_T74 l0 x9_1).f1))).setCell ⟨gb126, 2, none⟩ (.int .i64 ((rd_T74 l0 x9_1).f2)))) ?hg ?ho ?hn ?hr ?_; (case ho => rfl); (case hg => rfl); (case hn => rfl); (case hr => first | (go_simp; done) | (go_simp; rfl)); intro w9 hw; replace BK126 : Aside0 (w9.heap[gb126]? = some (.cells #[.int .i64 ((rd_T74 l0 x9_1).f0), .int .i64 ((rd_T74 l0 x9_1).f1), .int .i64 ((rd_T74 l0 x9_1).f2)] 74 (0, 0))) := ⟨(by rw [hw]; exact (by refine zL ?_; refine blk_put (cs := #[.int .i64 ((rd_T74 l0 x9_1).f0), .int .i64 ((rd_T74 l0 x9_1).f1), .int .i64 0]) ?_ 2 _ rfl; refine zL ?_; refine blk_put (cs := #[.int .i64 ((rd_T74 l0 x9_1).f0), .int .i64 0, .int .i64 0]) ?_ 1 _ rfl; refine zL ?_; refine blk_put (cs := #[.int .i64 0, .int .i64 0, .int .i64 0]) ?_ 0 _ rfl; refine zL ?_; exact BK126.out))⟩; replace HB : Aside0 (Below w.heap.size w w9) := ⟨(by rw [hw]; exact (zB HB))⟩; clear hw; have q10 : (x9_1 : Int) ≤ ((l0.length : Int) : Int) := za; obtain ⟨i010, hi010, _, hsz10, _⟩ := info_parts info74; have hroom10 : l0.length ≤ c0 := HC0.out; have hC10 : Kd.C k74 _ (some ad125) l0.length l0 := HR0.out; have hcut10 := cut_to (P := Tryz.prog) 34 74 .i64 Tryz.underlying34 hi010 (some ad125) l0.length c0 x9_1 (of_decide_eq_true (by first | (with_reducible assumption) | assumption)) q10 hroom10; have hr10 := Kd.C_take (m := (x9_1 : Int).toNat) hC10 (by omega); have hy10 : y127.length = (x9_1 : Int).toNat := (by rw [Ny127.out, List.length_take]; omega); rw [← Ny127.out] at hr10; rw [← hy10] at hcut10; have HR130 := Aside0.mk hr10; have HC130 := Aside0.mk (show y127.length ≤ c0 from by omega); clear hr10 hC10 hroom10 hi010 hsz10; have KY10 := Aside0.mk hy10; clear hy10; replace q10 := eq_true q10))
  go_loopg [18] k1 (fun kq v18 w' => ∃ (x18_2 : Int), v18 = .int .i64 x18_2 ∧ Aside0 (asset_twice.l1 kq l0 l0 (l0.length : Int) x9_1 y127 (y127.length : Int) x18_2 ((rd_T74 l0 x9_1).f0) ((rd_T74 l0 x9_1).f1) ((rd_T74 l0 x9_1).f2) = some r) ∧ Aside0 (kq ≤ k1) ∧ Aside0 (w'.heap[gb126]? = some (.cells #[.int .i64 ((rd_T74 l0 x9_1).f0), .int .i64 ((rd_T74 l0 x9_1).f1), .int .i64 ((rd_T74 l0 x9_1).f2)] 74 (0, 0))) ∧ Aside0 (Below w.heap.size w w'))
  case atStart => exact ⟨(0), zI, H', ⟨Nat.le_refl _⟩, ⟨zK BK126⟩, ⟨zB HB⟩⟩
  case round =>
   clear H'
   (try clear c2); (try clear c2b0); (try clear c3); (try clear c3b0); (try clear c4); (try clear c4b0); (try clear c5b0); (try clear c6); (try clear c6b0); (try clear c6b1); (try clear q10); (try clear hcz8_0 hcz8_1 hcz8_2); (try clear hfz8_0 hfz8_1 hfz8_2); (try clear hx125_0); (try clear hx125_1); (try clear hx125_2); (try clear p125); (try clear q125)
   obtain ⟨x18_2, rfl, HA, HK2, BK126, HB⟩ := hrel
   rcases gk with _ | k2
   · exact absurd HA.out (by simp [asset_twice.l1])
   have H := HA.out
   clear HA
   simp only [asset_twice.l1] at H
   by_cases c11 : x18_2 < (y127.length : Int)
   rotate_left
   · rw [if_neg c11] at H
     have c11b0 : decide (x18_2 < (y127.length : Int)) = false := decide_eq_false c11; clear c11
     have H' := Aside0.mk H
     clear H
     go_wp2
     go_roundg k2
     case measure => have := HK1.out; have := HK2.out; omega
     case rel => exact ⟨(wrap64 (x9_1 + 1)), zI, H', ⟨by have := HK1.out; have := HK2.out; omega⟩, ⟨zB HB⟩⟩
   rw [if_pos c11] at H
   have c11b0 : decide (x18_2 < (y127.length : Int)) = true := decide_eq_true c11; clear c11
   by_cases c12 : 0 ≤ x18_2
   rotate_left
   · rw [if_neg c12] at H
     exact absurd H (by simp)
   rw [if_pos c12] at H
   have c12b0 : decide (0 ≤ x18_2) = true := decide_eq_true c12; clear c12
   by_cases c13 : x18_2 < (y127.length : Int)
   rotate_left
   · rw [if_neg c13] at H
     exact absurd H (by simp)
   rw [if_pos c13] at H
   have c13b0 : decide (x18_2 < (y127.length : Int)) = true := decide_eq_true c13; clear c13
   by_cases c14 : ((rd_T74 l0 x9_1).f0) = ((rd_T74 y127 x18_2).f0)
   · rw [if_pos c14] at H
     have c14b0 : (((rd_T74 l0 x9_1).f0) == ((rd_T74 y127 x18_2).f0)) = true := beq_iff_eq.mpr c14; have c14b1 : (((rd_T74 l0 x9_1).f0) != ((rd_T74 y127 x18_2).f0)) = false := bne_eq_false_iff_eq.mpr c14; clear c14
     by_cases c15 : ((rd_T74 l0 x9_1).f1) = ((rd_T74 y127 x18_2).f1)
     · rw [if_pos c15] at H
       have c15b0 : (((rd_T74 l0 x9_1).f1) == ((rd_T74 y127 x18_2).f1)) = true := beq_iff_eq.mpr c15; have c15b1 : (((rd_T74 l0 x9_1).f1) != ((rd_T74 y127 x18_2).f1)) = false := bne_eq_false_iff_eq.mpr c15; clear c15
       obtain rfl := Option.some.inj H
       have p131 : 0 ≤ (x18_2 : Int) := za
       have q131 : x18_2 < (y127.length : Int) := za
       obtain ⟨ad131, e131, hx131_0, hx131_1, hx131_2⟩ := at_T74 HR130.out x18_2 p131 q131
       obtain rfl : ad125 = ad131 := (by injection e131)
       replace hx131_0 := zh HB hx131_0; replace hx131_1 := zh HB hx131_1; replace hx131_2 := zh HB hx131_2
       replace p131 := eq_true p131
       replace q131 := eq_true q131
       go_wp2_with (first | ((with_reducible refine gate_dst (N := 6) rfl ?_); refine zx 6 #[.int .i64 0, .int .i64 0, .int .i64 0] 74 ?_; intro gb132 hg w16 hbox hb; have BK132 := Aside0.mk (hbox); have GW132 := zG HB hg; have GE132 := zG HB hg; replace HB := Aside0.mk (below_step (zB HB) hb); have NB126_132 := Aside0.mk ((by rw [hg]; exact Nat.ne_of_lt (blk_lt (g := gb126) (o := .cells #[.int .i64 ((rd_T74 l0 x9_1).f0), .int .i64 ((rd_T74 l0 x9_1).f1), .int .i64 ((rd_T74 l0 x9_1).f2)] 74 (0, 0)) (zK BK126)) : gb126 ≠ gb132)); have NB132_126 := Aside0.mk ((by rw [hg]; exact Nat.ne_of_gt (blk_lt (g := gb126) (o := .cells #[.int .i64 ((rd_T74 l0 x9_1).f0), .int .i64 ((rd_T74 l0 x9_1).f1), .int .i64 ((rd_T74 l0 x9_1).f2)] 74 (0, 0)) (zK BK126)) : gb132 ≠ gb126)); replace BK126 := zkb BK126 hb; clear hb hbox hg; have hnb17 := NB132_126.out; have hnc17 := NB126_132.out; obtain ⟨hcz18_0, hcz18_1, hcz18_2⟩ := zc3 BK132; obtain ⟨hfz18_0, hfz18_1, hfz18_2⟩ := zf3 BK132; obtain ⟨hcz19_0, hcz19_1, hcz19_2⟩ := zc3 BK126; obtain ⟨hfz19_0, hfz19_1, hfz19_2⟩ := zf3 BK126))
       go_ret
       exact ⟨zr, zB HB⟩
     rw [if_neg c15] at H
     have c15b0 : (((rd_T74 l0 x9_1).f1) == ((rd_T74 y127 x18_2).f1)) = false := beq_eq_false_iff_ne.mpr c15
     have c15b1 : (((rd_T74 l0 x9_1).f1) != ((rd_T74 y127 x18_2).f1)) = true := bne_iff_ne.mpr c15
     have H' := Aside0.mk H
     clear H
     have p131 : 0 ≤ (x18_2 : Int) := za
     have q131 : x18_2 < (y127.length : Int) := za
     obtain ⟨ad131, e131, hx131_0, hx131_1, hx131_2⟩ := at_T74 HR130.out x18_2 p131 q131
     obtain rfl : ad125 = ad131 := (by injection e131)
     replace hx131_0 := zh HB hx131_0; replace hx131_1 := zh HB hx131_1; replace hx131_2 := zh HB hx131_2
     replace p131 := eq_true p131
     replace q131 := eq_true q131
     go_wp2_with (first | ((with_reducible refine gate_dst (N := 6) rfl ?_); refine zx 6 #[.int .i64 0, .int .i64 0, .int .i64 0] 74 ?_; intro gb132 hg w20 hbox hb; have BK132 := Aside0.mk (hbox); have GW132 := zG HB hg; have GE132 := zG HB hg; replace HB := Aside0.mk (below_step (zB HB) hb); have NB126_132 := Aside0.mk ((by rw [hg]; exact Nat.ne_of_lt (blk_lt (g := gb126) (o := .cells #[.int .i64 ((rd_T74 l0 x9_1).f0), .int .i64 ((rd_T74 l0 x9_1).f1), .int .i64 ((rd_T74 l0 x9_1).f2)] 74 (0, 0)) (zK BK126)) : gb126 ≠ gb132)); have NB132_126 := Aside0.mk ((by rw [hg]; exact Nat.ne_of_gt (blk_lt (g := gb126) (o := .cells #[.int .i64 ((rd_T74 l0 x9_1).f0), .int .i64 ((rd_T74 l0 x9_1).f1), .int .i64 ((rd_T74 l0 x9_1).f2)] 74 (0, 0)) (zK BK126)) : gb132 ≠ gb126)); replace BK126 := zkb BK126 hb; clear hb hbox hg; have hnb21 := NB132_126.out; have hnc21 := NB126_132.out; obtain ⟨hcz22_0, hcz22_1, hcz22_2⟩ := zc3 BK132; obtain ⟨hfz22_0, hfz22_1, hfz22_2⟩ := zf3 BK132; obtain ⟨hcz23_0, hcz23_1, hcz23_2⟩ := zc3 BK126; obtain ⟨hfz23_0, hfz23_1, hfz23_2⟩ := zf3 BK126))
     go_roundg k2
     case measure => have := HK1.out; have := HK2.out; omega
     case rel => exact ⟨(wrap64 (x18_2 + 1)), zI, H', ⟨by have := HK1.out; have := HK2.out; omega⟩, ⟨by refine zL ?_; refine blk_far ?_ NB126_132.out _; refine zL ?_; refine blk_far ?_ NB126_132.out _; refine zL ?_; refine blk_far ?_ NB126_132.out _; refine zL ?_; exact BK126.out⟩, ⟨zB HB⟩⟩
   rw [if_neg c14] at H
   have c14b0 : (((rd_T74 l0 x9_1).f0) == ((rd_T74 y127 x18_2).f0)) = false := beq_eq_false_iff_ne.mpr c14
   have c14b1 : (((rd_T74 l0 x9_1).f0) != ((rd_T74 y127 x18_2).f0)) = true := bne_iff_ne.mpr c14
   have H' := Aside0.mk H
   clear H
   have p131 : 0 ≤ (x18_2 : Int) := za
   have q131 : x18_2 < (y127.length : Int) := za
   obtain ⟨ad131, e131, hx131_0, hx131_1, hx131_2⟩ := at_T74 HR130.out x18_2 p131 q131
   obtain rfl : ad125 = ad131 := (by injection e131)
   replace hx131_0 := zh HB hx131_0; replace hx131_1 := zh HB hx131_1; replace hx131_2 := zh HB hx131_2
   replace p131 := eq_true p131
   replace q131 := eq_true q131
   go_wp2_with (first | ((with_reducible refine gate_dst (N := 6) rfl ?_); refine zx 6 #[.int .i64 0, .int .i64 0, .int .i64 0] 74 ?_; intro gb132 hg w24 hbox hb; have BK132 := Aside0.mk (hbox); have GW132 := zG HB hg; have GE132 := zG HB hg; replace HB := Aside0.mk (below_step (zB HB) hb); have NB126_132 := Aside0.mk ((by rw [hg]; exact Nat.ne_of_lt (blk_lt (g := gb126) (o := .cells #[.int .i64 ((rd_T74 l0 x9_1).f0), .int .i64 ((rd_T74 l0 x9_1).f1), .int .i64 ((rd_T74 l0 x9_1).f2)] 74 (0, 0)) (zK BK126)) : gb126 ≠ gb132)); have NB132_126 := Aside0.mk ((by rw [hg]; exact Nat.ne_of_gt (blk_lt (g := gb126) (o := .cells #[.int .i64 ((rd_T74 l0 x9_1).f0), .int .i64 ((rd_T74 l0 x9_1).f1), .int .i64 ((rd_T74 l0 x9_1).f2)] 74 (0, 0)) (zK BK126)) : gb132 ≠ gb126)); replace BK126 := zkb BK126 hb; clear hb hbox hg; have hnb25 := NB132_126.out; have hnc25 := NB126_132.out; obtain ⟨hcz26_0, hcz26_1, hcz26_2⟩ := zc3 BK132; obtain ⟨hfz26_0, hfz26_1, hfz26_2⟩ := zf3 BK132; obtain ⟨hcz27_0, hcz27_1, hcz27_2⟩ := zc3 BK126; obtain ⟨hfz27_0, hfz27_1, hfz27_2⟩ := zf3 BK126))
   go_roundg k2
   case measure => have := HK1.out; have := HK2.out; omega
   case rel => exact ⟨(wrap64 (x18_2 + 1)), zI, H', ⟨by have := HK1.out; have := HK2.out; omega⟩, ⟨by refine zL ?_; refine blk_far ?_ NB126_132.out _; refine zL ?_; refine blk_far ?_ NB126_132.out _; refine zL ?_; refine blk_far ?_ NB126_132.out _; refine zL ?_; exact BK126.out⟩, ⟨zB HB⟩⟩
end Go.Proofs.YtnphnhkinjppjaaGreatDoor.Q
end

section
namespace Go.Proofs.YtnphnhkinjppjaaGreatDoor.Q
open Go.RowKit Go.Proofs.YtnphnhkinjppjaaGreatDoorW.PrintWords Go.Proofs.YtnphnhkinjppjaaGreatDoorW.PrintLast Go.Proofs.YtnphnhkinjppjaaGreatDoorW.PrintMore
attribute [local go_sem] max2_int min2_int max_two min_two max_three min_three max_four min_four
theorem eqA33 (d : Nat) (w : World) (x0 y0 : Bool) (x1 y1 : Int) (x2 y2 : Int) (x3 y3 : Int) :
    (Op.equalIn (d + 3) 33 (.agg #[.bool x0, .int .u64 x1, .int .u64 x2, .int .i64 x3]) (.agg #[.bool y0, .int .u64 y1, .int .u64 y2, .int .i64 y3])).run Tryz.prog w = .ok ((x0 == y0 && (x1 == y1 && (x2 == y2))) && (x3 == y3)) w := by
  refine eqA_of Tryz.underlying33 (by kernel_rfl) ?_
  refine eqf_cons (by rfl) (by go_simp) (by go_simp) (eqA31 (d + 0) w _ _ _ _ _ _) ?_
  exact eqf_last (by rfl) (by go_simp; rfl) (by go_simp; rfl) (by go_simp)
end Go.Proofs.YtnphnhkinjppjaaGreatDoor.Q
end
