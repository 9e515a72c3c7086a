/- The law AssetChecks answers true for every input and leaves its arguments as they were. No condition. (Part 5 of 6: the kit's printed words and walks, hand-made contracts and plain laws, joined in build order, without what the theorem does not reach.) -/
import Derived.OneCell
import Derived.WalkSpells
import Derived.ArgAppend
import Derived.Test.YtnphnhkinjppjaaGreatDoorGAssetChecks4
set_option linter.unusedVariables false
set_option linter.unusedSimpArgs false
section
set_option maxHeartbeats 8000000
set_option maxRecDepth 100000
namespace Go.Proofs.YtnphnhkinjppjaaGreatDoor.Q
open Go.RowKit Go.Proofs.YtnphnhkinjppjaaGreatDoorW.PrintWords Go.Proofs.YtnphnhkinjppjaaGreatDoorW.PrintLast Go.Proofs.YtnphnhkinjppjaaGreatDoorW.PrintMore
def optL : List ByteArray := [⟨#[112, 111, 108, 105, 99, 121]⟩, ⟨#[102, 114, 97, 103]⟩, ⟨#[104, 111, 112, 115]⟩, ⟨#[119, 105, 110, 100, 111, 119]⟩, ⟨#[115, 116, 97, 109, 112, 115]⟩, ⟨#[118, 97, 108, 117, 101]⟩, ⟨#[115, 101, 114, 118, 105, 99, 101]⟩]
def polL : List ByteArray := [⟨#[102, 105, 114, 115, 116]⟩, ⟨#[108, 97, 115, 116]⟩, ⟨#[98, 115, 100]⟩, ⟨#[108, 105, 110, 117, 120]⟩, ⟨#[100, 114, 111, 112]⟩]
def appL : List ByteArray := [⟨#[114, 97, 119]⟩, ⟨#[104, 116, 116, 112]⟩, ⟨#[115, 109, 116, 112]⟩, ⟨#[116, 108, 115]⟩, ⟨#[100, 110, 115]⟩]
def proL : List ByteArray := [⟨#[116, 99, 112]⟩, ⟨#[117, 100, 112]⟩]
def aDef : S36 := ⟨⟨#[100, 101, 102, 97, 117, 108, 116]⟩, ⟨⟨false, 0, 0⟩, 0⟩, 1, 1, 0, 8192, false, 1, []⟩
def optOne (k : Nat) (L : List (S84)) (A : S36) (n i e a : Int) : Option (S36 × Int × Int × Int) :=
  if n = 0 then (asset_parser_choice.f k L i e a (polL.take 4)).bind fun r => some ({ A with f2 := wrap64 (1 + r.1) }, r.2)
  else if n = 1 then (asset_parser_choice.f k L i e a polL).bind fun r => some ({ A with f3 := wrap64 (1 + r.1) }, r.2)
  else if n = 2 then (asset_parser_number.f k L i e a).bind fun r => some ({ A with f4 := r.1 }, r.2)
  else if n = 3 then (asset_parser_number.f k L i e a).bind fun r => some ({ A with f5 := r.1 }, r.2)
  else if n = 4 then some ({ A with f6 := true }, i, e, a)
  else if n = 5 then (asset_parser_number.f k L i e a).bind fun r => some ({ A with f7 := r.1 }, r.2)
  else (asset_parser_choice.f k L i e a proL).bind fun r1 => (asset_parser_number.f k L r1.2.1 r1.2.2.1 r1.2.2.2).bind fun r2 => (asset_parser_choice.f k L r2.2.1 r2.2.2.1 r2.2.2.2 appL).bind fun r3 =>
    if A.f8.length < 1000000 then some ({ A with f8 := A.f8 ++ [⟨if r1.1 = 1 then 17 else 6, r2.1, r3.1⟩] }, r3.2) else none
def optLoop : Nat → List (S84) → Int → S36 → Int → Int → Int → Option (S36 × Int × Int × Int)
  | 0, _, _, _, _, _, _ => none
  | k + 1, L, least, A, i, e, a =>
    if e = 0 then
      if isTok L i 4 ⟨#[59]⟩ = true then some (A, isNx L i 4 ⟨#[59]⟩, e, a)
      else (slices_Index_string.f k optL (pword L i e a).1.f1).bind fun n =>
        if (pword L i e a).2.2.1 = 0 then
          if n < 0 then some (A, (pword L i e a).2.1, 15, (pword L i e a).1.f2)
          else if n < least then some (A, (pword L i e a).2.1, 14, (pword L i e a).1.f2)
          else if n < 7 then (optOne k L A n (pword L i e a).2.1 (pword L i e a).2.2.1 (pword L i e a).2.2.2).bind fun r => optLoop k L (if n = 6 then n else n + 1) r.1 r.2.1 r.2.2.1 r.2.2.2
          else none
        else some (A, (pword L i e a).2.1, (pword L i e a).2.2.1, (pword L i e a).2.2.2)
    else some (A, i, e, a)
def preOne (k : Nat) (t : S84) (e a : Int) : Option (S33 × Int × Int) :=
  if e = 0 then (address_ParsePrefix.f k t.f1).bind fun r => if r.2.2.2.2 = 0 then some (⟨⟨r.1, r.2.1, r.2.2.1⟩, r.2.2.2.1⟩, e, a) else some (⟨⟨r.1, r.2.1, r.2.2.1⟩, r.2.2.2.1⟩, failE e r.2.2.2.2, failA e a t.f2) else some (⟨⟨false, 0, 0⟩, 0⟩, e, a)
def hostOne (L : List (S84)) (i e a : Int) : Int × Int × Int :=
  if (pword L i e a).1.f1.toList = ([104, 111, 115, 116] : List UInt8) then ((pword L i e a).2.1, (pword L i e a).2.2.1, (pword L i e a).2.2.2) else ((pword L i e a).2.1, failE (pword L i e a).2.2.1 15, failA (pword L i e a).2.2.1 (pword L i e a).2.2.2 (pword L i e a).1.f2)
def asset_statement.f (k : Nat) (L : List (S84)) (i e a : Int) : Option (S36 × Int × Int × Int) :=
  let h := hostOne L i e a
  let q := pword L h.1 h.2.1 h.2.2
  let t := pword L q.2.1 q.2.2.1 q.2.2.2
  (preOne k t.1 t.2.2.1 t.2.2.2).bind fun x => optLoop k L 0 { aDef with f0 := q.1.f1, f1 := x.1 } t.2.1 x.2.1 x.2.2
abbrev assetCells (A : S36) (v : Value) : Array Value := #[.string A.f0, .bool A.f1.f0.f0, .int .u64 A.f1.f0.f1, .int .u64 A.f1.f0.f2, .int .i64 A.f1.f1, .int .i64 A.f2, .int .i64 A.f3, .int .i64 A.f4, .int .i64 A.f5, .bool A.f6, .int .i64 A.f7, v]
structure StI (w0 w W : World) (p c g B : Nat) (L : List (S84)) (A : S36) (v : Value) (i e a : Int) : Prop where
  par : IsPar w0 W p c L i e a
  blk : W.heap[B]? = some (.cells (assetCells A v) 36 (0, 0))
  row : Kd.R k74 74 W w.heap.size (fun _ => True) v A.f8
  res : W.heap[g]? = some (.cells (assetCells z36 (.slice none 0 0)) 36 (0, 0))
  ne : g ≠ B
  geB : w.heap.size ≤ B
  geg : w.heap.size ≤ g
  old : p < w.heap.size ∧ c < w.heap.size ∧ w0.heap.size ≤ w.heap.size
  bel : Below w0.heap.size w0 W
  kept : KeepPC w W p c
section
variable {w0 w W W1 : World} {p c g B : Nat} {L : List (S84)} {A : S36} {v : Value} {i e a : Int}
theorem StI.keep (h : StI w0 w W p c g B L A v i e a) {i' e' a' : Int} (hp : IsPar w0 W1 p c L i' e' a') (hb : Below w0.heap.size w0 W1) (hk : KeepPC W W1 p c) : StI w0 w W1 p c g B L A v i' e' a' where
  par := hp
  blk := blk_kept h.blk hk (by have := h.geB; have := h.old; omega)
  row := Kd.R_mono (Kd.R_kept (Kd.R_bound h.row) hk (fun k hk' => by have := hk'.2.1; have := h.old; omega)) (fun _ _ => trivial)
  res := blk_kept h.res hk (by have := h.geg; have := h.old; omega)
  ne := h.ne
  geB := h.geB
  geg := h.geg
  old := h.old
  bel := hb
  kept := h.kept.then_ hk (fun _ x => .inl x)
theorem StI.below (h : StI w0 w W p c g B L A v i e a) (hb : Below W.heap.size W W1) : StI w0 w W1 p c g B L A v i e a :=
  h.keep (h.par.below hb) (below_then h.bel h.bel.size hb) (Kept.of_below hb _)
theorem StI.alloc (h : StI w0 w W p c g B L A v i e a) (o : Obj) : StI w0 w (W.alloc o) p c g B L A v i e a := h.below (below_alloc (Below.refl _ _) o)
theorem StI.put (h : StI w0 w W p c g B L A v i e a) (j : Nat) (x : Value) {A' : S36} (hA : (assetCells A v).setIfInBounds j x = assetCells A' v) (h8 : A'.f8 = A.f8) : StI w0 w (W.setCell ⟨B, j, none⟩ x) p c g B L A' v i e a where
  par := h.par.far (by have := h.geB; have := h.old; show B ≠ p; omega) (by have := h.geB; have := h.old; show B ≠ c; omega) _
  blk := by rw [← hA]; exact blk_set h.blk j x
  row := by rw [h8]; exact Kd.R_set h.row h.blk (by decide) j _
  res := (Below.heap_setCell W ⟨B, j, none⟩ x g h.ne).trans h.res
  ne := h.ne
  geB := h.geB
  geg := h.geg
  old := h.old
  bel := h.bel.setCell (by have := h.geB; have := h.old; show w0.heap.size ≤ B; omega) _
  kept := h.kept.setCell (.inr h.geB) _
end
structure StO (w0 w W : World) (p c g B : Nat) (L : List (S84)) (A : S36) (v vo : Value) (i e a : Int) : Prop where
  st : StI w0 w W p c g B L A v i e a
  opt : Kd.R Kd.string 9 W w.heap.size (fun _ => True) vo optL
section
variable {w0 w W W1 : World} {p c g B : Nat} {L : List (S84)} {A : S36} {v vo : Value} {i e a : Int}
theorem StO.keep (h : StO w0 w W p c g B L A v vo i e a) {i' e' a' : Int} (hp : IsPar w0 W1 p c L i' e' a') (hb : Below w0.heap.size w0 W1) (hk : KeepPC W W1 p c) : StO w0 w W1 p c g B L A v vo i' e' a' :=
  ⟨h.st.keep hp hb hk, Kd.R_mono (Kd.R_kept (Kd.R_bound h.opt) hk (fun k hk' => by have := hk'.2.1; have := h.st.old; omega)) (fun _ _ => trivial)⟩
theorem StO.below (h : StO w0 w W p c g B L A v vo i e a) (hb : Below W.heap.size W W1) : StO w0 w W1 p c g B L A v vo i e a :=
  h.keep (h.st.par.below hb) (below_then h.st.bel h.st.bel.size hb) (Kept.of_below hb _)
theorem StO.alloc (h : StO w0 w W p c g B L A v vo i e a) (o : Obj) : StO w0 w (W.alloc o) p c g B L A v vo i e a := h.below (below_alloc (Below.refl _ _) o)
theorem StO.put (h : StO w0 w W p c g B L A v vo i e a) (j : Nat) (x : Value) {A' : S36} (hA : (assetCells A v).setIfInBounds j x = assetCells A' v) (h8 : A'.f8 = A.f8) : StO w0 w (W.setCell ⟨B, j, none⟩ x) p c g B L A' v vo i e a :=
  ⟨h.st.put j x hA h8, Kd.R_set h.opt h.st.blk (by decide) j _⟩
theorem StO.old_ne (h : StO w0 w W p c g B L A v vo i e a) {x : Nat} (hx : x = W.heap.size) : x ≠ p ∧ x ≠ c ∧ x ≠ B ∧ x ≠ g := ⟨by have := h.st.par.lt; omega, by have := h.st.par.cur.lt; omega, by have := blk_lt h.st.blk; omega, by have := blk_lt h.st.res; omega⟩
end
structure FinI (w0 w W : World) (p c g : Nat) (L : List (S84)) (A : S36) (v : Value) (i e a : Int) : Prop where
  par : IsPar w0 W p c L i e a
  row : Kd.R k74 74 W w.heap.size (fun _ => True) v A.f8
  blk : ∃ cs, W.heap[g]? = some (.cells cs 36 (0, 0))
  geg : w.heap.size ≤ g
  old : p < w.heap.size ∧ c < w.heap.size ∧ w0.heap.size ≤ w.heap.size
  bel : Below w0.heap.size w0 W
  kept : KeepPC w W p c
theorem StI.fin {w0 w W : World} {p c g B : Nat} {L : List (S84)} {A : S36} {v : Value} {i e a : Int} (h : StI w0 w W p c g B L A v i e a) : FinI w0 w W p c g L A v i e a := ⟨h.par, h.row, ⟨_, h.res⟩, h.geg, h.old, h.bel, h.kept⟩
theorem FinI.put {w0 w W : World} {p c g : Nat} {L : List (S84)} {A : S36} {v : Value} {i e a : Int} (h : FinI w0 w W p c g L A v i e a) (j : Nat) (x : Value) : FinI w0 w (W.setCell ⟨g, j, none⟩ x) p c g L A v i e a := by
  obtain ⟨cs, hb⟩ := h.blk
  exact ⟨h.par.far (by have := h.geg; have := h.old; show g ≠ p; omega) (by have := h.geg; have := h.old; show g ≠ c; omega) _, Kd.R_set h.row hb (by decide) j _, ⟨_, blk_set hb j x⟩, h.geg, h.old, h.bel.setCell (by have := h.geg; have := h.old; show w0.heap.size ≤ g; omega) _, h.kept.setCell (.inr h.geg) _⟩
theorem FinI.all {w0 w W : World} {p c g : Nat} {L : List (S84)} {A A' : S36} {v : Value} {i e a i' e' a' : Int} (h : FinI w0 w W p c g L A v i e a) (hr : (A, i, e, a) = (A', i', e', a')) {b0 b1 b2 b3 b4 b5 b6 b7 b8 b9 b10 b11 : Value} :
    ∃ v', Ending.returned (.agg (assetCells A v)) = .returned (.agg (assetCells A' v')) ∧ Kd.R k74 74 ((((((((((((W.setCell ⟨g, 0, none⟩ b0).setCell ⟨g, 1, none⟩ b1).setCell ⟨g, 2, none⟩ b2).setCell ⟨g, 3, none⟩ b3).setCell ⟨g, 4, none⟩ b4).setCell ⟨g, 5, none⟩ b5).setCell ⟨g, 6, none⟩ b6).setCell ⟨g, 7, none⟩ b7).setCell ⟨g, 8, none⟩ b8).setCell ⟨g, 9, none⟩ b9).setCell ⟨g, 10, none⟩ b10).setCell ⟨g, 11, none⟩ b11) w.heap.size (fun _ => True) v' A'.f8 ∧ IsPar w0 ((((((((((((W.setCell ⟨g, 0, none⟩ b0).setCell ⟨g, 1, none⟩ b1).setCell ⟨g, 2, none⟩ b2).setCell ⟨g, 3, none⟩ b3).setCell ⟨g, 4, none⟩ b4).setCell ⟨g, 5, none⟩ b5).setCell ⟨g, 6, none⟩ b6).setCell ⟨g, 7, none⟩ b7).setCell ⟨g, 8, none⟩ b8).setCell ⟨g, 9, none⟩ b9).setCell ⟨g, 10, none⟩ b10).setCell ⟨g, 11, none⟩ b11) p c L i' e' a' ∧ Below w0.heap.size w0 ((((((((((((W.setCell ⟨g, 0, none⟩ b0).setCell ⟨g, 1, none⟩ b1).setCell ⟨g, 2, none⟩ b2).setCell ⟨g, 3, none⟩ b3).setCell ⟨g, 4, none⟩ b4).setCell ⟨g, 5, none⟩ b5).setCell ⟨g, 6, none⟩ b6).setCell ⟨g, 7, none⟩ b7).setCell ⟨g, 8, none⟩ b8).setCell ⟨g, 9, none⟩ b9).setCell ⟨g, 10, none⟩ b10).setCell ⟨g, 11, none⟩ b11) ∧ KeepPC w ((((((((((((W.setCell ⟨g, 0, none⟩ b0).setCell ⟨g, 1, none⟩ b1).setCell ⟨g, 2, none⟩ b2).setCell ⟨g, 3, none⟩ b3).setCell ⟨g, 4, none⟩ b4).setCell ⟨g, 5, none⟩ b5).setCell ⟨g, 6, none⟩ b6).setCell ⟨g, 7, none⟩ b7).setCell ⟨g, 8, none⟩ b8).setCell ⟨g, 9, none⟩ b9).setCell ⟨g, 10, none⟩ b10).setCell ⟨g, 11, none⟩ b11) p c := by
  simp only [Prod.mk.injEq] at hr
  obtain ⟨rfl, rfl, rfl, rfl⟩ := hr
  have hf := (((((((((((h.put 0 b0).put 1 b1).put 2 b2).put 3 b3).put 4 b4).put 5 b5).put 6 b6).put 7 b7).put 8 b8).put 9 b9).put 10 b10).put 11 b11
  exact ⟨v, rfl, hf.row, hf.par, hf.bel, hf.kept⟩
structure LoopI (k gg : Nat) (L : List (S84)) (least : Int) (A : S36) (i e a : Int) (r : S36 × Int × Int × Int) : Prop where
  val : optLoop gg L least A i e a = some r
  pos : PosIn L i
  l0 : 0 ≤ least
  l7 : least ≤ 7
section
variable {k gg : Nat} {L : List (S84)} {least : Int} {A : S36} {i e a : Int} {r : S36 × Int × Int × Int}
theorem LoopI.suc (h : LoopI k gg L least A i e a r) : ∃ g, gg = g + 1 := by
  cases gg with
  | zero => have := h.val; simp [optLoop] at this
  | succ g => exact ⟨g, rfl⟩
theorem LoopI.bad (h : LoopI k (gg + 1) L least A i e a r) (he : ¬ e = 0) : (A, i, e, a) = r := by
  have := h.val
  rw [optLoop, if_neg he] at this
  exact Option.some.inj this
theorem LoopI.fin (h : LoopI k (gg + 1) L least A i e a r) (he : e = 0) (hm : isTok L i 4 ⟨#[59]⟩ = true) : (A, isNx L i 4 ⟨#[59]⟩, e, a) = r := by
  have := h.val
  rw [optLoop, if_pos he, if_pos hm] at this
  exact Option.some.inj this
theorem LoopI.on (h : LoopI k (gg + 1) L least A i e a r) (he : e = 0) (hm : ¬ isTok L i 4 ⟨#[59]⟩ = true) : ∃ n, slices_Index_string.f gg optL (pword L i e a).1.f1 = some n ∧
    ((¬ (pword L i e a).2.2.1 = 0 ∧ (A, (pword L i e a).2.1, (pword L i e a).2.2.1, (pword L i e a).2.2.2) = r) ∨ ((pword L i e a).2.2.1 = 0 ∧ ((n < 0 ∧ (A, (pword L i e a).2.1, (15 : Int), (pword L i e a).1.f2) = r) ∨ (¬ n < 0 ∧ n < least ∧ (A, (pword L i e a).2.1, (14 : Int), (pword L i e a).1.f2) = r) ∨
      (¬ n < 0 ∧ ¬ n < least ∧ n < 7 ∧ ∃ q, optOne gg L A n (pword L i e a).2.1 (pword L i e a).2.2.1 (pword L i e a).2.2.2 = some q ∧ optLoop gg L (if n = 6 then n else n + 1) q.1 q.2.1 q.2.2.1 q.2.2.2 = some r)))) := by
  have := h.val
  rw [optLoop, if_pos he, if_neg hm] at this
  obtain ⟨n, hn, h2⟩ := Option.bind_eq_some_iff.1 this
  refine ⟨n, hn, ?_⟩
  split at h2
  · rename_i h3
    refine .inr ⟨h3, ?_⟩
    split at h2
    · rename_i h4
      exact .inl ⟨h4, Option.some.inj h2⟩
    · rename_i h4
      split at h2
      · rename_i h5
        exact .inr (.inl ⟨h4, h5, Option.some.inj h2⟩)
      · rename_i h5
        split at h2
        · rename_i h6
          obtain ⟨q, hq, h7⟩ := Option.bind_eq_some_iff.1 h2
          exact .inr (.inr ⟨h4, h5, h6, q, hq, h7⟩)
        · cases h2
  · rename_i h3
    exact .inl ⟨h3, Option.some.inj h2⟩
end
theorem strs_kept {W : World} {base p c n cp : Nat} {A : Option Addr} {l : List ByteArray} (h : Kd.R Kd.string 9 W base (fun _ => True) (.slice A n cp) l) (hp : p < base) (hc : c < base) : ∀ W', KeepPC W W' p c → Kd.C Kd.string W' A l.length l := fun W' hk => by
  have h2 := Kd.C_kept_own (Kd.R_bound h) (S := fun k => k = p ∨ k = c) (fun k hk => by have := hk.2.1; omega) W' hk
  rw [(Kd.R_reads' h).1] at h2
  exact h2
theorem opt_cell {W : World} {base go : Nat} (h : Kd.R Kd.string 9 W base (fun _ => True) (.slice (some ⟨go, 0, none⟩) 7 7) optL) (j : Nat) (hj : j < 7) : W.cell? ⟨go, j, none⟩ = some (.string (rdOf ByteArray.empty optL (j : Int))) := by
  obtain ⟨ad, e, hx⟩ := Kd.at_string (Kd.R_reads' h).2.2 (j : Int) (by omega) (by show (j : Int) < (7 : Nat); omega)
  injection e with e
  subst e
  rw [add_plain] at hx
  simpa using hx
theorem StO.append {w0 w W w1 : World} {p c g B : Nat} {L : List (S84)} {A : S36} {v vo v1 : Value} {i e a : Int} (h : StO w0 w W p c g B L A v vo i e a) (x : S74) (ho : Kd.R k74 74 w1 w.heap.size (fun _ => True) v1 (A.f8 ++ [x])) (hg : W.grownBy w1 v.ownBlock) :
    StO w0 w (w1.setCell ⟨B, 11, none⟩ v1) p c g B L { A with f8 := A.f8 ++ [x] } v1 vo i e a := by
  have hown : ∀ k, v.ownBlock = some k → w.heap.size ≤ k := fun k hk => ((Kd.R_bound h.st.row).1 k hk).2.1
  have hty := Kd.R_typed h.st.row
  have hne : ∀ (b : Nat) (cs : Array Value) (t : TypeId), W.heap[b]? = some (.cells cs t (0, 0)) → 74 ≠ t → some b ≠ v.ownBlock := fun b cs t hb ht => Kd.R_ne h.st.row hb ht
  have hp : IsPar w0 w1 p c L i e a := by
    obtain ⟨h1, h2, h3⟩ := h.st.par
    obtain ⟨A0, c0, h4, h5, h6⟩ := h3
    exact ⟨blk_grown h1 hg (hne _ _ _ h1 (by decide)), h2, A0, c0, blk_grown h4 hg (hne _ _ _ h4 (by decide)), h5, h6⟩
  have hb1 : w1.heap[B]? = some (.cells (assetCells A v) 36 (0, 0)) := blk_grown h.st.blk hg (hne _ _ _ h.st.blk (by decide))
  have hr1 : w1.heap[g]? = some (.cells (assetCells z36 (.slice none 0 0)) 36 (0, 0)) := blk_grown h.st.res hg (hne _ _ _ h.st.res (by decide))
  have hopt : Kd.R Kd.string 9 w1 w.heap.size (fun _ => True) vo optL := Kd.R_over' h.opt hty (by decide) hg
  refine ⟨{ par := hp.far (by have := h.st.geB; have := h.st.old; show B ≠ p; omega) (by have := h.st.geB; have := h.st.old; show B ≠ c; omega) _, blk := blk_set hb1 11 v1, row := Kd.R_set ho hb1 (by decide) 11 _, res := (Below.heap_setCell w1 ⟨B, 11, none⟩ v1 g h.st.ne).trans hr1, ne := h.st.ne, geB := h.st.geB, geg := h.st.geg, old := h.st.old, bel := ?_, kept := ?_ }, Kd.R_set hopt hb1 (by decide) 11 _⟩
  · exact (pw_below_grown h.st.bel v.ownBlock h.st.bel.size hg (fun k hk => by have := hown k hk; have := h.st.old; omega)).setCell (by have := h.st.geB; have := h.st.old; show w0.heap.size ≤ B; omega) _
  · exact (Kept.of_grown hg h.st.kept (fun k hk => .inr (hown k hk))).setCell (.inr h.st.geB) _
structure StV (w0 w W : World) (p c g B gs : Nat) (L : List (S84)) (A : S36) (v vo : Value) (i e a : Int) (cs : Array Value) : Prop where
  so : StO w0 w W p c g B L A v vo i e a
  row : Kd.R k74 74 W w.heap.size (fun k => k ≠ gs) v A.f8
  sv : W.heap[gs]? = some (.cells cs 74 (0, 0))
  ne : gs ≠ p ∧ gs ≠ c ∧ gs ≠ B ∧ gs ≠ g
  ge : w.heap.size ≤ gs
section
variable {w0 w W W1 : World} {p c g B gs : Nat} {L : List (S84)} {A : S36} {v vo : Value} {i e a : Int} {cs : Array Value}
theorem StV.new (h : StO w0 w W p c g B L A v vo i e a) (cs : Array Value) : StV w0 w (W.alloc (.cells cs 74)) p c g B W.heap.size L A v vo i e a cs :=
  ⟨h.alloc _, Kd.R_alloc (Kd.R_mono (Kd.R_bound h.st.row) (fun k hk => Nat.ne_of_lt hk.2.2.1)) _, heap_alloc_new _ _, h.old_ne rfl, by have := h.st.geB; have := blk_lt h.st.blk; omega⟩
theorem StV.keep (h : StV w0 w W p c g B gs L A v vo i e a cs) {i' e' a' : Int} (hp : IsPar w0 W1 p c L i' e' a') (hb : Below w0.heap.size w0 W1) (hk : KeepPC W W1 p c) : StV w0 w W1 p c g B gs L A v vo i' e' a' cs :=
  ⟨h.so.keep hp hb hk, Kd.R_mono (Kd.R_kept (Kd.R_bound h.row) hk (fun k hk' => by have := hk'.2.1; have := h.so.st.old; omega)) (fun _ hk => hk.1), blk_kept h.sv hk (by have := h.ne; omega), h.ne, h.ge⟩
theorem StV.below (h : StV w0 w W p c g B gs L A v vo i e a cs) (hb : Below W.heap.size W W1) : StV w0 w W1 p c g B gs L A v vo i e a cs :=
  h.keep (h.so.st.par.below hb) (below_then h.so.st.bel h.so.st.bel.size hb) (Kept.of_below hb _)
theorem StV.alloc (h : StV w0 w W p c g B gs L A v vo i e a cs) (o : Obj) : StV w0 w (W.alloc o) p c g B gs L A v vo i e a cs := h.below (below_alloc (Below.refl _ _) o)
theorem StV.put (h : StV w0 w W p c g B gs L A v vo i e a cs) (j : Nat) (x : Value) : StV w0 w (W.setCell ⟨gs, j, none⟩ x) p c g B gs L A v vo i e a (cs.setIfInBounds j x) := by
  have hr : Kd.R k74 74 (W.setCell ⟨gs, j, none⟩ x) w.heap.size (fun k => k ≠ gs) v A.f8 := Kd.R_far h.row (fun k hk => hk) x
  exact ⟨⟨{ par := h.so.st.par.far h.ne.1 h.ne.2.1 _, blk := (Below.heap_setCell W ⟨gs, j, none⟩ x B (Ne.symm h.ne.2.2.1)).trans h.so.st.blk, row := Kd.R_mono hr (fun _ _ => trivial), res := (Below.heap_setCell W ⟨gs, j, none⟩ x g (Ne.symm h.ne.2.2.2)).trans h.so.st.res, ne := h.so.st.ne, geB := h.so.st.geB, geg := h.so.st.geg, old := h.so.st.old, bel := h.so.st.bel.setCell (by have := h.so.st.old; have := h.ge; show w0.heap.size ≤ gs; omega) _, kept := h.so.st.kept.setCell (.inr h.ge) _ }, Kd.R_set h.so.opt h.sv (by decide) j _⟩, hr, blk_set h.sv j x, h.ne, h.ge⟩
end
theorem opt_eq (j : Nat) (l l' : List UInt8) {b : Bool} (h : (optL.getD j ByteArray.empty).data.toList = l ∧ (l == l') = b) : ((rdOf ByteArray.empty optL (j : Int)).toList == l') = b := by
  rw [ByteArray.toList_eq]
  unfold rdOf
  rw [Int.toNat_natCast, h.1, h.2]
theorem PosIn.number {k : Nat} {L : List (S84)} {i e a n i' e' a' : Int} (h : PosIn L i) (hf : asset_parser_number.f k L i e a = some (n, i', e', a')) : PosIn L i' := by
  unfold asset_parser_number.f at hf
  obtain ⟨r, _, h2⟩ := Option.bind_eq_some_iff.1 hf
  split at h2
  all_goals
    simp only [Option.some.injEq, Prod.mk.injEq] at h2
    obtain ⟨_, rfl, _, _⟩ := h2
    exact h.word
theorem PosIn.choice {k : Nat} {L : List (S84)} {i e a n i' e' a' : Int} {l : List ByteArray} (h : PosIn L i) (hf : asset_parser_choice.f k L i e a l = some (n, i', e', a')) : PosIn L i' := by
  unfold asset_parser_choice.f at hf
  obtain ⟨r, _, h2⟩ := Option.bind_eq_some_iff.1 hf
  split at h2
  all_goals
    simp only [Option.some.injEq, Prod.mk.injEq] at h2
    obtain ⟨_, rfl, _, _⟩ := h2
    exact h.word
theorem lit_strs (W : World) (base : Nat) (hb : base ≤ W.heap.size) (l : List ByteArray) (hm : l.length ≤ 1000) : Kd.R Kd.string 9 (W.alloc (.cells (l.map Value.string).toArray 9)) base (fun _ => True) (.slice (some ⟨W.heap.size, 0, none⟩) l.length l.length) l := by
  refine Kd.R_of_own ?_ (fun _ _ => trivial)
  exact ⟨by rw [encs_length, Nat.mul_one], .inr ⟨W.heap.size, _, _, rfl, hb, heap_alloc_new W _, Nat.le_refl _, by simp only [maxLen]; omega, by simp, by rw [Nat.mul_one, encs_str]; simp only [List.toList_toArray]; exact List.take_of_length_le (by simp)⟩⟩
theorem statement_walk (k : Nat) (w0 w : World) (p c : Nat) (L : List (S84)) (i e a : Int) (A' : S36) (i' e' a' : Int) (hI : IsPar w0 w p c L i e a) (hB : Below w0.heap.size w0 w) (hP : PosIn L i) (hW : WOK w0) (h : asset_statement.f k L i e a = some (A', i', e', a')) :
    Calls Tryz.prog 49 #[.pointer (some ⟨p, 0, none⟩)] w fun r w' => ∃ v, r = .returned (.agg (assetCells A' v)) ∧ Kd.R k74 74 w' w.heap.size (fun _ => True) v A'.f8 ∧ IsPar w0 w' p c L i' e' a' ∧ Below w0.heap.size w0 w' ∧ KeepPC w w' p c := by
  have hu := Tryz.underlying84
  have hu2 := Tryz.underlying36
  have hu3 := Tryz.underlying33
  have hfd : ∀ (t : S84) (w' : World), (Instr.field 84 (tokV t) 1).run Tryz.prog w' = .ok (.string t.f1) w' := fun _ _ => by kernel_rfl
  unfold asset_statement.f at h
  have H := Aside0.mk h
  have HP := Aside0.mk hP
  have HW := Aside0.mk hW
  have HO : Aside0 (p < w.heap.size ∧ c < w.heap.size ∧ w0.heap.size ≤ w.heap.size) := ⟨hI.lt, hI.cur.lt, hB.size⟩
  have HI := Aside0.mk (hI.alloc (.cells (assetCells z36 (.slice none 0 0)) 36))
  have HB := Aside0.mk (hB.alloc hB.size (.cells (assetCells z36 (.slice none 0 0)) 36))
  have HK := Aside0.mk ((Kept.refl w (fun k => k = p ∨ k = c)).alloc (.cells (assetCells z36 (.slice none 0 0)) 36))
  have HX : Aside0 ((w.alloc (.cells (assetCells z36 (.slice none 0 0)) 36)).heap[w.heap.size]? = some (.cells (assetCells z36 (.slice none 0 0)) 36 (0, 0))) := ⟨heap_alloc_new _ _⟩
  have HZ : Aside0 (w.heap.size < (w.alloc (.cells (assetCells z36 (.slice none 0 0)) 36)).heap.size) := ⟨by simp⟩
  clear hI hB hP hW h
  go_enter Tryz.func49, Tryz.ntmps49
  go_upto_region 1 with (fail)
  obtain ⟨g, hg⟩ : ∃ g, w.heap.size = g := ⟨_, rfl⟩
  rw [hg] at HX
  have HG : Aside0 (w.heap.size ≤ g) := ⟨Nat.le_of_eq hg⟩
  have HG2 : Aside0 (g < (w.alloc (.cells (assetCells z36 (.slice none 0 0)) 36)).heap.size) := ⟨by rw [← hg]; exact HZ.out⟩
  simp only [hg]
  clear hg HZ
  change Code.wp _ _ _ _ (w.alloc (.cells (assetCells z36 (.slice none 0 0)) 36))
  generalize w.alloc (.cells (assetCells z36 (.slice none 0 0)) 36) = W at HX HB HI HK HG2 ⊢
  go_wp2_with fail
  refine (asset_Default.calls _ _ _ _ _ _ _ _ _ _ _ _ W (show asset_Default.f = some (aDef.f0, aDef.f1.f0.f0, aDef.f1.f0.f1, aDef.f1.f0.f2, aDef.f1.f1, aDef.f2, aDef.f3, aDef.f4, aDef.f5, aDef.f6, aDef.f7, aDef.f8) from rfl)).mono ?_
  rintro r w2 ⟨v, rfl, ho, hb⟩
  obtain ⟨A1, c1, hv⟩ := Kd.R_slice ho
  subst hv
  replace HI := Aside0.mk (HI.out.below hb)
  replace HX := Aside0.mk (blk_below HX.out hb)
  replace HB := Aside0.mk (below_then HB.out HB.out.size hb)
  replace HK := Aside0.mk (HK.out.below hb)
  have HR := Aside0.mk (Kd.R_lower ho (show w.heap.size ≤ W.heap.size by have := HG.out; have := HG2.out; omega))
  have HG3 : Aside0 (g < w2.heap.size) := ⟨Nat.lt_of_lt_of_le HG2.out hb.size⟩
  clear hb ho
  go_upto_region 2 with (fail)
  have HS : Aside0 (StI w0 w (w2.alloc (.cells (assetCells aDef (.slice A1 aDef.f8.length c1)) 36)) p c g w2.heap.size L aDef (.slice A1 aDef.f8.length c1) i e a) := ⟨{
    par := HI.out.alloc _
    blk := heap_alloc_new _ _
    row := Kd.R_alloc HR.out _
    res := blk_alloc HX.out _
    ne := by have := HG3.out; omega
    geB := by have := HG.out; have := HG3.out; omega
    geg := HG.out
    old := HO.out
    bel := HB.out.alloc HB.out.size _
    kept := HK.out.alloc _ }⟩
  clear HI HX HB HK HR HG HG2
  obtain ⟨B, hBB⟩ : ∃ B, w2.heap.size = B := ⟨_, rfl⟩
  rw [hBB] at HS
  simp only [hBB]
  clear hBB HG3
  change Code.wp _ _ _ _ (w2.alloc (.cells (assetCells aDef (.slice A1 aDef.f8.length c1)) 36))
  generalize w2.alloc (.cells (assetCells aDef (.slice A1 aDef.f8.length c1)) 36) = W2 at HS ⊢
  go_wp2_with fail
  refine (word_walk w0 W2 p c L i e a HS.out.par HS.out.bel HP.out).mono ?_
  rintro r w3 ⟨rfl, hi, hb, hk⟩
  replace HS := Aside0.mk (HS.out.keep hi hb hk)
  replace HP := Aside0.mk (HP.out.word (e := e) (a := a))
  clear hi hb hk
  obtain ⟨⟨t, i2, e2, a2⟩, hq⟩ : ∃ q, pword L i e a = q := ⟨_, rfl⟩
  have HQ := Aside0.mk hq
  rw [hq] at HS HP ⊢
  clear hq
  go_upto_region 3 with (fail)
  obtain ⟨gt, hgt⟩ : ∃ gt, w3.heap.size = gt := ⟨_, rfl⟩
  have HT : Aside0 ((w3.alloc (.cells #[.int .i64 t.f0, .string t.f1, .int .i64 t.f2] 84)).heap[w3.heap.size]? = some (.cells #[.int .i64 t.f0, .string t.f1, .int .i64 t.f2] 84 (0, 0))) := ⟨heap_alloc_new _ _⟩
  rw [hgt] at HT
  simp only [hgt]
  clear hgt
  replace HS := Aside0.mk (HS.out.alloc (.cells #[.int .i64 t.f0, .string t.f1, .int .i64 t.f2] 84))
  generalize w3.alloc (.cells #[.int .i64 t.f0, .string t.f1, .int .i64 t.f2] 84) = W3 at HS HT ⊢
  obtain ⟨d0, d1, d2⟩ := zc3 HT
  have HF : Aside0 ((hostOne L i e a).1 = i2) := ⟨by unfold hostOne; rw [HQ.out]; split <;> rfl⟩
  go_upto_if 18 with (fail)
  go_cut [] (fun wc => Aside0 (StI w0 w wc p c g B L aDef (.slice A1 aDef.f8.length c1) i2 (hostOne L i e a).2.1 (hostOne L i e a).2.2))
  case first =>
    by_cases ht : t.f1.toList = ([104, 111, 115, 116] : List UInt8)
    · have b1 : (t.f1.toList == ([104, 111, 115, 116] : List UInt8)) = true := beq_iff_eq.mpr ht
      have b2 : (t.f1.toList != ([104, 111, 115, 116] : List UInt8)) = false := bne_eq_false_iff_eq.mpr ht
      simp only [b1, Bool.not_true]
      have HE : Aside0 (hostOne L i e a = (i2, e2, a2)) := ⟨by unfold hostOne; rw [HQ.out, if_pos ht]⟩
      clear ht
      go_wp2
      go_meet
      case rel => exact ⟨by rw [HE.out]; exact HS.out⟩
    · have b1 : (t.f1.toList == ([104, 111, 115, 116] : List UInt8)) = false := beq_eq_false_iff_ne.mpr ht
      have b2 : (t.f1.toList != ([104, 111, 115, 116] : List UInt8)) = true := bne_iff_ne.mpr ht
      simp only [b1, Bool.not_false]
      have HE : Aside0 (hostOne L i e a = (i2, failE e2 15, failA e2 a2 t.f2)) := ⟨by unfold hostOne; rw [HQ.out, if_neg ht]⟩
      clear ht
      go_wp2_with fail
      refine (fail_walk w0 W3 p c L i2 e2 a2 15 t HS.out.par HS.out.bel).mono ?_
      rintro r w4 ⟨rfl, hi, hb, hk⟩
      have HS4 := Aside0.mk (HS.out.keep hi hb hk)
      clear hi hb hk
      go_wp2
      go_meet
      case rel => exact ⟨by rw [HE.out]; exact HS4.out⟩
  case rest =>
    clear HS HT d0 d1 d2 HQ
    obtain ⟨HS⟩ := hcut
    replace HS := Aside0.mk HS
    obtain ⟨⟨iq, e3, a3⟩, hh⟩ : ∃ x, hostOne L i e a = x := ⟨_, rfl⟩
    rw [hh] at HF HS H
    have hf := HF.out
    simp only at hf
    subst hf
    clear HF hh
    simp only at H
    go_wp2_with fail
    refine (word_walk w0 wc p c L iq e3 a3 HS.out.par HS.out.bel HP.out).mono ?_
    rintro r w4 ⟨rfl, hi, hb, hk⟩
    replace HS := Aside0.mk (HS.out.keep hi hb hk)
    replace HP := Aside0.mk (HP.out.word (e := e3) (a := a3))
    clear hi hb hk
    obtain ⟨⟨tn, i4, e4, a4⟩, hq⟩ : ∃ q, pword L iq e3 a3 = q := ⟨_, rfl⟩
    rw [hq] at HS HP H ⊢
    clear hq
    simp only at H
    obtain ⟨d0, d1, d2, d3, d4, d5, d6, d7, d8, d9, d10, d11⟩ := zc12 ⟨HS.out.blk⟩
    obtain ⟨f0, f1, f2, f3, f4, f5, f6, f7, f8, f9, f10, f11⟩ := zf12 ⟨HS.out.blk⟩
    go_upto_region 6 with (fail)
    clear d0 d1 d2 d3 d4 d5 d6 d7 d8 d9 d10 d11 f0 f1 f2 f3 f4 f5 f6 f7 f8 f9 f10 f11
    replace HS := Aside0.mk (HS.out.put 0 (.string tn.f1) (A' := { aDef with f0 := tn.f1 }) rfl rfl)
    generalize w4.setCell ⟨B, 0, none⟩ (.string tn.f1) = W4 at HS ⊢
    go_wp2_with fail
    refine (word_walk w0 W4 p c L i4 e4 a4 HS.out.par HS.out.bel HP.out).mono ?_
    rintro r w5 ⟨rfl, hi, hb, hk⟩
    replace HS := Aside0.mk (HS.out.keep hi hb hk)
    replace HP := Aside0.mk (HP.out.word (e := e4) (a := a4))
    clear hi hb hk
    obtain ⟨⟨t5, i5, e5, a5⟩, hq⟩ : ∃ q, pword L i4 e4 a4 = q := ⟨_, rfl⟩
    rw [hq] at HS HP H ⊢
    clear hq
    simp only at H
    go_upto_region 7 with (fail)
    obtain ⟨g5, hgt⟩ : ∃ gt, w5.heap.size = gt := ⟨_, rfl⟩
    have HT : Aside0 ((w5.alloc (.cells #[.int .i64 t5.f0, .string t5.f1, .int .i64 t5.f2] 84)).heap[w5.heap.size]? = some (.cells #[.int .i64 t5.f0, .string t5.f1, .int .i64 t5.f2] 84 (0, 0))) := ⟨heap_alloc_new _ _⟩
    rw [hgt] at HT
    simp only [hgt]
    have HTN : Aside0 (g5 ≠ p ∧ g5 ≠ c) := ⟨by have := HS.out.par.lt; omega, by have := HS.out.par.cur.lt; omega⟩
    clear hgt
    replace HS := Aside0.mk (HS.out.alloc (.cells #[.int .i64 t5.f0, .string t5.f1, .int .i64 t5.f2] 84))
    generalize w5.alloc (.cells #[.int .i64 t5.f0, .string t5.f1, .int .i64 t5.f2] 84) = W5 at HS HT ⊢
    obtain ⟨⟨X, e6, a6⟩, hpre, hopt⟩ := Option.bind_eq_some_iff.1 H.out
    have HPRE := Aside0.mk hpre
    have HOPT := Aside0.mk hopt
    clear hpre hopt H
    obtain ⟨c0, c1', c2⟩ := HS.out.par.cells
    go_upto_if 32 with (fail)
    clear c0 c1' c2
    go_cut [] (fun wc => Aside0 (StI w0 w wc p c g B L { aDef with f0 := tn.f1, f1 := X } (.slice A1 aDef.f8.length c1) i5 e6 a6))
    case first =>
      by_cases he : e5 = 0
      · have b1 : (e5 == 0) = true := beq_iff_eq.mpr he
        have hpre := HPRE.out
        unfold preOne at hpre
        rw [if_pos he] at hpre
        obtain ⟨⟨p1, p2, p3, p4, p5⟩, hpp, hpre⟩ := Option.bind_eq_some_iff.1 hpre
        have HPP := Aside0.mk hpp
        have HE := Aside0.mk he
        have HPRE := Aside0.mk hpre
        clear hpp he hpre
        obtain ⟨d0, d1, d2⟩ := zc3 HT
        go_wp2_with fail
        refine (address_ParsePrefix.calls k t5.f1 p1 p2 p3 p4 p5 W5 HPP.out (HW.out.below HS.out.bel)).mono ?_
        rintro r w6 ⟨rfl, hb⟩
        clear d0 d1 d2
        replace HS := Aside0.mk (HS.out.below hb)
        replace HT := Aside0.mk (blk_below HT.out hb)
        clear hb
        go_upto_region 9 with (fail)
        obtain ⟨gx, hgx⟩ : ∃ gx, w6.heap.size = gx := ⟨_, rfl⟩
        have HX : Aside0 ((w6.alloc (.cells #[.bool p1, .int .u64 p2, .int .u64 p3, .int .i64 p4] 33)).heap[w6.heap.size]? = some (.cells #[.bool p1, .int .u64 p2, .int .u64 p3, .int .i64 p4] 33 (0, 0))) := ⟨heap_alloc_new _ _⟩
        rw [hgx] at HX
        simp only [hgx]
        have HXN : Aside0 (gx ≠ p ∧ gx ≠ c ∧ gx ≠ B) := ⟨by have := HS.out.par.lt; omega, by have := HS.out.par.cur.lt; omega, by have := blk_lt HS.out.blk; omega⟩
        clear hgx
        replace HS := Aside0.mk (HS.out.alloc (.cells #[.bool p1, .int .u64 p2, .int .u64 p3, .int .i64 p4] 33))
        replace HT := Aside0.mk (blk_alloc HT.out (.cells #[.bool p1, .int .u64 p2, .int .u64 p3, .int .i64 p4] 33))
        generalize w6.alloc (.cells #[.bool p1, .int .u64 p2, .int .u64 p3, .int .i64 p4] 33) = W6 at HS HT HX ⊢
        have hn1 : (gx = B) = False := eq_false HXN.out.2.2
        have hn2 : (B = gx) = False := eq_false (Ne.symm HXN.out.2.2)
        by_cases hp5 : p5 = 0
        · have b5 : (p5 != 0) = false := by rw [hp5]; rfl
          have HX5 : Aside0 ((⟨⟨p1, p2, p3⟩, p4⟩, e5, a5) = (X, e6, a6)) := ⟨Option.some.inj ((if_pos hp5).symm.trans HPRE.out)⟩
          clear hp5
          obtain ⟨x0, x1, x2, x3⟩ := zc4 HX
          obtain ⟨d0, d1, d2, d3, d4, d5, d6, d7, d8, d9, d10, d11⟩ := zc12 ⟨HS.out.blk⟩
          obtain ⟨f0, f1, f2, f3, f4, f5, f6, f7, f8, f9, f10, f11⟩ := zf12 ⟨HS.out.blk⟩
          go_wp2
          clear x0 x1 x2 x3 d0 d1 d2 d3 d4 d5 d6 d7 d8 d9 d10 d11 f0 f1 f2 f3 f4 f5 f6 f7 f8 f9 f10 f11
          go_meet
          case rel => exact ⟨by
            have h1 := HS.out.put 1 (.bool p1) (A' := { aDef with f0 := tn.f1, f1 := ⟨⟨p1, aDef.f1.f0.f1, aDef.f1.f0.f2⟩, aDef.f1.f1⟩ }) rfl rfl
            have h2 := h1.put 2 (.int .u64 p2) (A' := { aDef with f0 := tn.f1, f1 := ⟨⟨p1, p2, aDef.f1.f0.f2⟩, aDef.f1.f1⟩ }) rfl rfl
            have h3 := h2.put 3 (.int .u64 p3) (A' := { aDef with f0 := tn.f1, f1 := ⟨⟨p1, p2, p3⟩, aDef.f1.f1⟩ }) rfl rfl
            have h4 := h3.put 4 (.int .i64 p4) (A' := { aDef with f0 := tn.f1, f1 := ⟨⟨p1, p2, p3⟩, p4⟩ }) rfl rfl
            have hx := HX5.out
            simp only [Prod.mk.injEq] at hx
            obtain ⟨rfl, rfl, rfl⟩ := hx
            exact h4⟩
        · have b5 : (p5 != 0) = true := bne_iff_ne.mpr hp5
          have HX5 : Aside0 ((⟨⟨p1, p2, p3⟩, p4⟩, failE e5 p5, failA e5 a5 t5.f2) = (X, e6, a6)) := ⟨Option.some.inj ((if_neg hp5).symm.trans HPRE.out)⟩
          clear hp5
          obtain ⟨d0, d1, d2⟩ := zc3 HT
          go_wp2_with fail
          refine (fail_walk w0 W6 p c L i5 e5 a5 p5 t5 HS.out.par HS.out.bel).mono ?_
          rintro r w7 ⟨rfl, hi, hb, hk⟩
          clear d0 d1 d2
          replace HX := Aside0.mk (blk_kept HX.out hk (by rintro (h | h); exact HXN.out.1 h; exact HXN.out.2.1 h))
          replace HS := Aside0.mk (HS.out.keep hi hb hk)
          clear hi hb hk
          obtain ⟨x0, x1, x2, x3⟩ := zc4 HX
          obtain ⟨d0, d1, d2, d3, d4, d5, d6, d7, d8, d9, d10, d11⟩ := zc12 ⟨HS.out.blk⟩
          obtain ⟨f0, f1, f2, f3, f4, f5, f6, f7, f8, f9, f10, f11⟩ := zf12 ⟨HS.out.blk⟩
          go_wp2
          clear x0 x1 x2 x3 d0 d1 d2 d3 d4 d5 d6 d7 d8 d9 d10 d11 f0 f1 f2 f3 f4 f5 f6 f7 f8 f9 f10 f11
          go_meet
          case rel => exact ⟨by
            have h1 := HS.out.put 1 (.bool p1) (A' := { aDef with f0 := tn.f1, f1 := ⟨⟨p1, aDef.f1.f0.f1, aDef.f1.f0.f2⟩, aDef.f1.f1⟩ }) rfl rfl
            have h2 := h1.put 2 (.int .u64 p2) (A' := { aDef with f0 := tn.f1, f1 := ⟨⟨p1, p2, aDef.f1.f0.f2⟩, aDef.f1.f1⟩ }) rfl rfl
            have h3 := h2.put 3 (.int .u64 p3) (A' := { aDef with f0 := tn.f1, f1 := ⟨⟨p1, p2, p3⟩, aDef.f1.f1⟩ }) rfl rfl
            have h4 := h3.put 4 (.int .i64 p4) (A' := { aDef with f0 := tn.f1, f1 := ⟨⟨p1, p2, p3⟩, p4⟩ }) rfl rfl
            have hx := HX5.out
            simp only [Prod.mk.injEq] at hx
            obtain ⟨rfl, rfl, rfl⟩ := hx
            exact h4⟩
      · have b1 : (e5 == 0) = false := beq_eq_false_iff_ne.mpr he
        have HX5 : Aside0 ((⟨⟨false, 0, 0⟩, 0⟩, e5, a5) = (X, e6, a6)) := ⟨by have hpre := HPRE.out; unfold preOne at hpre; rw [if_neg he] at hpre; exact Option.some.inj hpre⟩
        clear he
        go_wp2
        go_meet
        case rel => exact ⟨by
          have hx := HX5.out
          simp only [Prod.mk.injEq] at hx
          obtain ⟨rfl, rfl, rfl⟩ := hx
          exact HS.out⟩
    case rest =>
      clear HS HT HPRE HTN
      obtain ⟨HS⟩ := hcut
      replace HS := Aside0.mk HS
      go_upto_region 13 with (fail)
      have HS2 : Aside0 (StO w0 w (wc.alloc (.cells (optL.map Value.string).toArray 9)) p c g B L { aDef with f0 := tn.f1, f1 := X } (.slice A1 aDef.f8.length c1) (.slice (some ⟨wc.heap.size, 0, none⟩) optL.length optL.length) i5 e6 a6) := ⟨⟨HS.out.alloc _, lit_strs wc w.heap.size (by have := HS.out.geB; have := blk_lt HS.out.blk; omega) optL (by decide)⟩⟩
      replace HS := HS2
      clear HS2
      obtain ⟨go, hgo⟩ : ∃ x, wc.heap.size = x := ⟨_, rfl⟩
      rw [hgo] at HS
      simp only [hgo]
      clear hgo
      change Code.wp _ _ _ _ (wc.alloc (.cells (optL.map Value.string).toArray 9))
      generalize wc.alloc (.cells (optL.map Value.string).toArray 9) = W8 at HS ⊢
      have HL : Aside0 (LoopI k k L 0 { aDef with f0 := tn.f1, f1 := X } i5 e6 a6 (A', i', e', a')) := ⟨⟨HOPT.out, HP.out, by omega, by omega⟩⟩
      clear HOPT HP
      go_wp2_with fail
      go_loopg [9] k (fun gg v9 wr => ∃ (least : Int) (A : S36) (Av : Option Addr) (cv : Nat) (i e a : Int), v9 = .int .i64 least ∧ Aside0 (LoopI k gg L least A i e a (A', i', e', a')) ∧ Aside0 (StO w0 w wr p c g B L A (.slice Av A.f8.length cv) (.slice (some ⟨go, 0, none⟩) 7 7) i e a))
      case atStart => exact ⟨0, _, A1, c1, i5, e6, a6, rfl, HL, HS⟩
      case round =>
        clear HL HS
        obtain ⟨least, A, Av, cv, iz, ez, az, rfl, HL, HS⟩ := hrel
        obtain ⟨gg, hgg⟩ := HL.out.suc
        subst hgg
        have hc := HS.out.st.par.cells
        obtain ⟨c0, c1', c2⟩ := hc
        by_cases he : ez = 0
        · have b1 : (ez == 0) = true := beq_iff_eq.mpr he
          have HE := Aside0.mk he
          clear he
          go_wp2_with fail
          refine (mark_walk w0 wr c L iz ⟨#[59]⟩ HS.out.st.par.cur HS.out.st.bel HL.out.pos.ge HL.out.pos.lt HL.out.pos.le).mono ?_
          rintro r w4 ⟨rfl, hi, hb, hk⟩
          clear c0 c1' c2
          replace HS := Aside0.mk (HS.out.keep (HS.out.st.par.keep hk hi) hb ((Kept.refl wr _).of_keep hk (.inl (.inr rfl))))
          clear hi hb hk
          cases hm : isTok L iz 4 ⟨#[59]⟩ with
          | true =>
            have HR := Aside0.mk (HL.out.fin HE.out hm)
            clear hm
            obtain ⟨d0, d1, d2, d3, d4, d5, d6, d7, d8, d9, d10, d11⟩ := zc12 ⟨HS.out.st.blk⟩
            obtain ⟨r0, r1, r2, r3, r4, r5, r6, r7, r8, r9, r10, r11⟩ := zc12 ⟨HS.out.st.res⟩
            obtain ⟨f0, f1, f2, f3, f4, f5, f6, f7, f8, f9, f10, f11⟩ := zf12 ⟨HS.out.st.res⟩
            have hgB : (g = B) = False := eq_false HS.out.st.ne
            have hBg : (B = g) = False := eq_false (Ne.symm HS.out.st.ne)
            have hzg := blk_lt HS.out.st.res
            go_wp2
            exact bodyPost_ret (v := .agg (assetCells A (.slice Av A.f8.length cv))) (by simp [results, Tryz.results49, go_sem, r0, r1, r2, r3, r4, r5, r6, r7, r8, r9, r10, r11, hzg]) rfl (HS.out.st.fin.all HR.out)
          | false =>
            have HN : Aside0 (isNx L iz 4 ⟨#[59]⟩ = iz) := ⟨by unfold isNx; rw [hm]; rfl⟩
            rw [HN.out] at HS
            obtain ⟨n, hn, hcase⟩ := HL.out.on HE.out (by rw [hm]; decide)
            have HIX := Aside0.mk hn
            have HCS := Aside0.mk hcase
            have HPW := Aside0.mk (HL.out.pos.word (e := ez) (a := az))
            have HLB := Aside0.mk (And.intro HL.out.l0 HL.out.l7)
            have HP0 := Aside0.mk HL.out.pos
            clear hm hn hcase HN HL
            go_wp2_with fail
            refine (word_walk w0 w4 p c L iz ez az HS.out.st.par HS.out.st.bel HP0.out).mono ?_
            rintro r w5 ⟨rfl, hi, hb, hk⟩
            replace HS := Aside0.mk (HS.out.keep hi hb hk)
            clear hi hb hk
            obtain ⟨⟨t9, i9, e9, a9⟩, hq⟩ : ∃ q, pword L iz ez az = q := ⟨_, rfl⟩
            rw [hq] at HS HPW HIX HCS ⊢
            clear hq
            simp only at HIX HCS HPW
            go_upto_region 16 with (fail)
            obtain ⟨gq, hgt⟩ : ∃ x, w5.heap.size = x := ⟨_, rfl⟩
            have HT : Aside0 ((w5.alloc (.cells #[.int .i64 t9.f0, .string t9.f1, .int .i64 t9.f2] 84)).heap[w5.heap.size]? = some (.cells #[.int .i64 t9.f0, .string t9.f1, .int .i64 t9.f2] 84 (0, 0))) := ⟨heap_alloc_new _ _⟩
            rw [hgt] at HT
            simp only [hgt]
            have HTN := Aside0.mk (HS.out.old_ne hgt.symm)
            clear hgt
            replace HS := Aside0.mk (HS.out.alloc (.cells #[.int .i64 t9.f0, .string t9.f1, .int .i64 t9.f2] 84))
            generalize w5.alloc (.cells #[.int .i64 t9.f0, .string t9.f1, .int .i64 t9.f2] 84) = W9 at HS HT ⊢
            obtain ⟨d0, d1, d2⟩ := zc3 HT
            go_wp2_with fail
            refine (slices_Index_string.calls gg _ _ optL t9.f1 n W9 (Kd.R_reads' HS.out.opt).2.2 (by decide) HIX.out).mono ?_
            rintro r w6 ⟨rfl, hb⟩
            clear d0 d1 d2
            replace hb : Below W9.heap.size W9 w6 := by first | exact hb | exact hb.below
            replace HS := Aside0.mk (HS.out.below hb)
            replace HT := Aside0.mk (blk_below HT.out hb)
            clear hb
            obtain ⟨c0, c1', c2⟩ := HS.out.st.par.cells
            rcases HCS.out with ⟨h1, hr⟩ | ⟨h1, ⟨h2, hr⟩ | ⟨h2, h3, hr⟩ | ⟨h2, h3, h4, q, hq, hl⟩⟩
            · have HR := Aside0.mk hr
              have b2 : (e9 != 0) = true := bne_iff_ne.mpr h1
              clear h1 hr
              obtain ⟨d0, d1, d2, d3, d4, d5, d6, d7, d8, d9, d10, d11⟩ := zc12 ⟨HS.out.st.blk⟩
              obtain ⟨r0, r1, r2, r3, r4, r5, r6, r7, r8, r9, r10, r11⟩ := zc12 ⟨HS.out.st.res⟩
              obtain ⟨f0, f1, f2, f3, f4, f5, f6, f7, f8, f9, f10, f11⟩ := zf12 ⟨HS.out.st.res⟩
              have hgB : (g = B) = False := eq_false HS.out.st.ne
              have hBg : (B = g) = False := eq_false (Ne.symm HS.out.st.ne)
              have hzg := blk_lt HS.out.st.res
              go_wp2
              exact bodyPost_ret (v := .agg (assetCells A (.slice Av A.f8.length cv))) (by simp [results, Tryz.results49, go_sem, r0, r1, r2, r3, r4, r5, r6, r7, r8, r9, r10, r11, hzg]) rfl (HS.out.st.fin.all HR.out)
            · have HR := Aside0.mk hr
              have b2 : (e9 != 0) = false := by rw [h1]; rfl
              have b3 : decide (n < 0) = true := decide_eq_true h2
              have HE9 := Aside0.mk h1
              clear h1 h2 hr
              obtain ⟨d0, d1, d2⟩ := zc3 HT
              go_wp2_with fail
              refine (fail_walk w0 w6 p c L i9 e9 a9 15 t9 HS.out.st.par HS.out.st.bel).mono ?_
              rintro r w7 ⟨rfl, hi, hb, hk⟩
              rw [show failE e9 15 = 15 from if_pos HE9.out, show failA e9 a9 t9.f2 = t9.f2 from if_pos HE9.out] at hi
              clear d0 d1 d2 c0 c1' c2
              replace HS := Aside0.mk (HS.out.keep hi hb hk)
              clear hi hb hk
              obtain ⟨d0, d1, d2, d3, d4, d5, d6, d7, d8, d9, d10, d11⟩ := zc12 ⟨HS.out.st.blk⟩
              obtain ⟨r0, r1, r2, r3, r4, r5, r6, r7, r8, r9, r10, r11⟩ := zc12 ⟨HS.out.st.res⟩
              obtain ⟨f0, f1, f2, f3, f4, f5, f6, f7, f8, f9, f10, f11⟩ := zf12 ⟨HS.out.st.res⟩
              have hgB : (g = B) = False := eq_false HS.out.st.ne
              have hBg : (B = g) = False := eq_false (Ne.symm HS.out.st.ne)
              have hzg := blk_lt HS.out.st.res
              go_wp2
              exact bodyPost_ret (v := .agg (assetCells A (.slice Av A.f8.length cv))) (by simp [results, Tryz.results49, go_sem, r0, r1, r2, r3, r4, r5, r6, r7, r8, r9, r10, r11, hzg]) rfl (HS.out.st.fin.all HR.out)
            · have HR := Aside0.mk hr
              have b2 : (e9 != 0) = false := by rw [h1]; rfl
              have b3 : decide (n < 0) = false := decide_eq_false (Int.not_lt.mpr h2)
              have b4 : decide (n < least) = true := decide_eq_true h3
              have HE9 := Aside0.mk h1
              clear h1 h2 h3 hr
              obtain ⟨d0, d1, d2⟩ := zc3 HT
              go_wp2_with fail
              refine (fail_walk w0 w6 p c L i9 e9 a9 14 t9 HS.out.st.par HS.out.st.bel).mono ?_
              rintro r w7 ⟨rfl, hi, hb, hk⟩
              rw [show failE e9 14 = 14 from if_pos HE9.out, show failA e9 a9 t9.f2 = t9.f2 from if_pos HE9.out] at hi
              clear d0 d1 d2 c0 c1' c2
              replace HS := Aside0.mk (HS.out.keep hi hb hk)
              clear hi hb hk
              obtain ⟨d0, d1, d2, d3, d4, d5, d6, d7, d8, d9, d10, d11⟩ := zc12 ⟨HS.out.st.blk⟩
              obtain ⟨r0, r1, r2, r3, r4, r5, r6, r7, r8, r9, r10, r11⟩ := zc12 ⟨HS.out.st.res⟩
              obtain ⟨f0, f1, f2, f3, f4, f5, f6, f7, f8, f9, f10, f11⟩ := zf12 ⟨HS.out.st.res⟩
              have hgB : (g = B) = False := eq_false HS.out.st.ne
              have hBg : (B = g) = False := eq_false (Ne.symm HS.out.st.ne)
              have hzg := blk_lt HS.out.st.res
              go_wp2
              exact bodyPost_ret (v := .agg (assetCells A (.slice Av A.f8.length cv))) (by simp [results, Tryz.results49, go_sem, r0, r1, r2, r3, r4, r5, r6, r7, r8, r9, r10, r11, hzg]) rfl (HS.out.st.fin.all HR.out)
            · have b2 : (e9 != 0) = false := by rw [h1]; rfl
              have b3 : decide (n < 0) = false := decide_eq_false (Int.not_lt.mpr h2)
              have b4 : decide (n < least) = false := decide_eq_false (Int.not_lt.mpr h3)
              have HQ := Aside0.mk hq
              have HLP := Aside0.mk hl
              have HN := Aside0.mk (And.intro h2 h4)
              clear h1 h2 h3 h4 hq hl HCS
              have hns : n = 0 ∨ n = 1 ∨ n = 2 ∨ n = 3 ∨ n = 4 ∨ n = 5 ∨ n = 6 := by have := HN.out.1; have := HN.out.2; omega
              rcases hns with hn | hn | hn | hn | hn | hn | hn
              · skip
                subst hn
                have hx := opt_cell HS.out.opt 0 (by decide)
                have s0 : ((rdOf ByteArray.empty optL 0).toList == ([112, 111, 108, 105, 99, 121] : List UInt8)) = true := opt_eq 0 ([112, 111, 108, 105, 99, 121] : List UInt8) _ ⟨rfl, rfl⟩
                have hq := HQ.out
                unfold optOne at hq
                rw [if_pos rfl] at hq
                clear HQ HN
                have hl := HLP.out
                clear HLP
                obtain ⟨⟨m, i10, e10, a10⟩, hm, hq⟩ := Option.bind_eq_some_iff.1 hq
                have hq := Option.some.inj hq
                subst hq
                have HM := Aside0.mk hm
                have HLP : Aside0 (LoopI k gg L 1 { A with f2 := wrap64 (1 + m) } i10 e10 a10 (A', i', e', a')) := ⟨⟨hl, HPW.out.choice hm, by omega, by omega⟩⟩
                clear hm hl
                go_wp2_with fail
                refine (asset_policies.calls polL w6 rfl).mono ?_
                rintro r w7 ⟨v7, rfl, ho, hb⟩
                obtain ⟨A7, c7, hv⟩ := Kd.R_slice ho
                subst hv
                have HLS := Aside0.mk (strs_kept ho HS.out.st.par.lt HS.out.st.par.cur.lt)
                have hcap : 5 ≤ c7 := (Kd.R_reads' ho).2.1
                replace HS := Aside0.mk (HS.out.below hb)
                clear hb ho c0 c1' c2 hx
                have h5 : polL.length = 5 := rfl
                simp only [h5]
                skip
                go_wp2_with fail
                refine (choice_walk gg w0 w7 p c L i9 e9 a9 m i10 e10 a10 A7 c7 (polL.take 4) HS.out.st.par HS.out.st.bel HPW.out (fun W' hk => Kd.C_take (HLS.out W' hk) (by decide)) (Nat.le_trans (by decide) hcap) HM.out).mono ?_
                rintro r w8 ⟨rfl, hi, hb, hk⟩
                replace HS := Aside0.mk (HS.out.keep hi hb hk)
                clear hi hb hk hcap
                obtain ⟨d0, d1, d2, d3, d4, d5, d6, d7, d8, d9, d10, d11⟩ := zc12 ⟨HS.out.st.blk⟩
                obtain ⟨f0, f1, f2, f3, f4, f5, f6, f7, f8, f9, f10, f11⟩ := zf12 ⟨HS.out.st.blk⟩
                go_wp2
                clear d0 d1 d2 d3 d4 d5 d6 d7 d8 d9 d10 d11 f0 f1 f2 f3 f4 f5 f6 f7 f8 f9 f10 f11
                go_roundg gg
                case measure => exact Nat.lt_succ_self gg
                case rel => exact ⟨1, { A with f2 := wrap64 (1 + m) }, Av, cv, i10, e10, a10, rfl, HLP, ⟨HS.out.put 5 (.int .i64 (wrap64 (1 + m))) rfl rfl⟩⟩
              · skip
                subst hn
                have hx := opt_cell HS.out.opt 1 (by decide)
                have s0 : ((rdOf ByteArray.empty optL 1).toList == ([112, 111, 108, 105, 99, 121] : List UInt8)) = false := opt_eq 1 ([102, 114, 97, 103] : List UInt8) _ ⟨rfl, rfl⟩
                have s1 : ((rdOf ByteArray.empty optL 1).toList == ([102, 114, 97, 103] : List UInt8)) = true := opt_eq 1 ([102, 114, 97, 103] : List UInt8) _ ⟨rfl, rfl⟩
                have hq := HQ.out
                unfold optOne at hq
                rw [if_neg (by decide), if_pos rfl] at hq
                clear HQ HN
                have hl := HLP.out
                clear HLP
                obtain ⟨⟨m, i10, e10, a10⟩, hm, hq⟩ := Option.bind_eq_some_iff.1 hq
                have hq := Option.some.inj hq
                subst hq
                have HM := Aside0.mk hm
                have HLP : Aside0 (LoopI k gg L 2 { A with f3 := wrap64 (1 + m) } i10 e10 a10 (A', i', e', a')) := ⟨⟨hl, HPW.out.choice hm, by omega, by omega⟩⟩
                clear hm hl
                go_wp2_with fail
                refine (asset_policies.calls polL w6 rfl).mono ?_
                rintro r w7 ⟨v7, rfl, ho, hb⟩
                obtain ⟨A7, c7, hv⟩ := Kd.R_slice ho
                subst hv
                have HLS := Aside0.mk (strs_kept ho HS.out.st.par.lt HS.out.st.par.cur.lt)
                have hcap : 5 ≤ c7 := (Kd.R_reads' ho).2.1
                replace HS := Aside0.mk (HS.out.below hb)
                clear hb ho c0 c1' c2 hx
                have h5 : polL.length = 5 := rfl
                simp only [h5]
                skip
                go_wp2_with fail
                refine (choice_walk gg w0 w7 p c L i9 e9 a9 m i10 e10 a10 A7 c7 (polL) HS.out.st.par HS.out.st.bel HPW.out (fun W' hk => HLS.out W' hk) (Nat.le_trans (by decide) hcap) HM.out).mono ?_
                rintro r w8 ⟨rfl, hi, hb, hk⟩
                replace HS := Aside0.mk (HS.out.keep hi hb hk)
                clear hi hb hk hcap
                obtain ⟨d0, d1, d2, d3, d4, d5, d6, d7, d8, d9, d10, d11⟩ := zc12 ⟨HS.out.st.blk⟩
                obtain ⟨f0, f1, f2, f3, f4, f5, f6, f7, f8, f9, f10, f11⟩ := zf12 ⟨HS.out.st.blk⟩
                go_wp2
                clear d0 d1 d2 d3 d4 d5 d6 d7 d8 d9 d10 d11 f0 f1 f2 f3 f4 f5 f6 f7 f8 f9 f10 f11
                go_roundg gg
                case measure => exact Nat.lt_succ_self gg
                case rel => exact ⟨2, { A with f3 := wrap64 (1 + m) }, Av, cv, i10, e10, a10, rfl, HLP, ⟨HS.out.put 6 (.int .i64 (wrap64 (1 + m))) rfl rfl⟩⟩
              · skip
                subst hn
                have hx := opt_cell HS.out.opt 2 (by decide)
                have s0 : ((rdOf ByteArray.empty optL 2).toList == ([112, 111, 108, 105, 99, 121] : List UInt8)) = false := opt_eq 2 ([104, 111, 112, 115] : List UInt8) _ ⟨rfl, rfl⟩
                have s1 : ((rdOf ByteArray.empty optL 2).toList == ([102, 114, 97, 103] : List UInt8)) = false := opt_eq 2 ([104, 111, 112, 115] : List UInt8) _ ⟨rfl, rfl⟩
                have s2 : ((rdOf ByteArray.empty optL 2).toList == ([104, 111, 112, 115] : List UInt8)) = true := opt_eq 2 ([104, 111, 112, 115] : List UInt8) _ ⟨rfl, rfl⟩
                have hq := HQ.out
                unfold optOne at hq
                rw [if_neg (by decide), if_neg (by decide), if_pos rfl] at hq
                clear HQ HN
                have hl := HLP.out
                clear HLP
                obtain ⟨⟨m, i10, e10, a10⟩, hm, hq⟩ := Option.bind_eq_some_iff.1 hq
                have hq := Option.some.inj hq
                subst hq
                have HM := Aside0.mk hm
                have HLP : Aside0 (LoopI k gg L 3 { A with f4 := m } i10 e10 a10 (A', i', e', a')) := ⟨⟨hl, HPW.out.number hm, by omega, by omega⟩⟩
                clear hm hl
                go_wp2_with fail
                refine (number_walk' gg w0 w6 p c L i9 e9 a9 m i10 e10 a10 HS.out.st.par HS.out.st.bel HPW.out HM.out).mono ?_
                rintro r w7 ⟨rfl, hi, hb, hk⟩
                clear c0 c1' c2 hx
                replace HS := Aside0.mk (HS.out.keep hi hb hk)
                clear hi hb hk
                obtain ⟨d0, d1, d2, d3, d4, d5, d6, d7, d8, d9, d10, d11⟩ := zc12 ⟨HS.out.st.blk⟩
                obtain ⟨f0, f1, f2, f3, f4, f5, f6, f7, f8, f9, f10, f11⟩ := zf12 ⟨HS.out.st.blk⟩
                go_wp2
                clear d0 d1 d2 d3 d4 d5 d6 d7 d8 d9 d10 d11 f0 f1 f2 f3 f4 f5 f6 f7 f8 f9 f10 f11
                go_roundg gg
                case measure => exact Nat.lt_succ_self gg
                case rel => exact ⟨3, { A with f4 := m }, Av, cv, i10, e10, a10, rfl, HLP, ⟨HS.out.put 7 (.int .i64 m) rfl rfl⟩⟩
              · skip
                subst hn
                have hx := opt_cell HS.out.opt 3 (by decide)
                have s0 : ((rdOf ByteArray.empty optL 3).toList == ([112, 111, 108, 105, 99, 121] : List UInt8)) = false := opt_eq 3 ([119, 105, 110, 100, 111, 119] : List UInt8) _ ⟨rfl, rfl⟩
                have s1 : ((rdOf ByteArray.empty optL 3).toList == ([102, 114, 97, 103] : List UInt8)) = false := opt_eq 3 ([119, 105, 110, 100, 111, 119] : List UInt8) _ ⟨rfl, rfl⟩
                have s2 : ((rdOf ByteArray.empty optL 3).toList == ([104, 111, 112, 115] : List UInt8)) = false := opt_eq 3 ([119, 105, 110, 100, 111, 119] : List UInt8) _ ⟨rfl, rfl⟩
                have s3 : ((rdOf ByteArray.empty optL 3).toList == ([119, 105, 110, 100, 111, 119] : List UInt8)) = true := opt_eq 3 ([119, 105, 110, 100, 111, 119] : List UInt8) _ ⟨rfl, rfl⟩
                have hq := HQ.out
                unfold optOne at hq
                rw [if_neg (by decide), if_neg (by decide), if_neg (by decide), if_pos rfl] at hq
                clear HQ HN
                have hl := HLP.out
                clear HLP
                obtain ⟨⟨m, i10, e10, a10⟩, hm, hq⟩ := Option.bind_eq_some_iff.1 hq
                have hq := Option.some.inj hq
                subst hq
                have HM := Aside0.mk hm
                have HLP : Aside0 (LoopI k gg L 4 { A with f5 := m } i10 e10 a10 (A', i', e', a')) := ⟨⟨hl, HPW.out.number hm, by omega, by omega⟩⟩
                clear hm hl
                go_wp2_with fail
                refine (number_walk' gg w0 w6 p c L i9 e9 a9 m i10 e10 a10 HS.out.st.par HS.out.st.bel HPW.out HM.out).mono ?_
                rintro r w7 ⟨rfl, hi, hb, hk⟩
                clear c0 c1' c2 hx
                replace HS := Aside0.mk (HS.out.keep hi hb hk)
                clear hi hb hk
                obtain ⟨d0, d1, d2, d3, d4, d5, d6, d7, d8, d9, d10, d11⟩ := zc12 ⟨HS.out.st.blk⟩
                obtain ⟨f0, f1, f2, f3, f4, f5, f6, f7, f8, f9, f10, f11⟩ := zf12 ⟨HS.out.st.blk⟩
                go_wp2
                clear d0 d1 d2 d3 d4 d5 d6 d7 d8 d9 d10 d11 f0 f1 f2 f3 f4 f5 f6 f7 f8 f9 f10 f11
                go_roundg gg
                case measure => exact Nat.lt_succ_self gg
                case rel => exact ⟨4, { A with f5 := m }, Av, cv, i10, e10, a10, rfl, HLP, ⟨HS.out.put 8 (.int .i64 m) rfl rfl⟩⟩
              · skip
                subst hn
                have hx := opt_cell HS.out.opt 4 (by decide)
                have s0 : ((rdOf ByteArray.empty optL 4).toList == ([112, 111, 108, 105, 99, 121] : List UInt8)) = false := opt_eq 4 ([115, 116, 97, 109, 112, 115] : List UInt8) _ ⟨rfl, rfl⟩
                have s1 : ((rdOf ByteArray.empty optL 4).toList == ([102, 114, 97, 103] : List UInt8)) = false := opt_eq 4 ([115, 116, 97, 109, 112, 115] : List UInt8) _ ⟨rfl, rfl⟩
                have s2 : ((rdOf ByteArray.empty optL 4).toList == ([104, 111, 112, 115] : List UInt8)) = false := opt_eq 4 ([115, 116, 97, 109, 112, 115] : List UInt8) _ ⟨rfl, rfl⟩
                have s3 : ((rdOf ByteArray.empty optL 4).toList == ([119, 105, 110, 100, 111, 119] : List UInt8)) = false := opt_eq 4 ([115, 116, 97, 109, 112, 115] : List UInt8) _ ⟨rfl, rfl⟩
                have s4 : ((rdOf ByteArray.empty optL 4).toList == ([115, 116, 97, 109, 112, 115] : List UInt8)) = true := opt_eq 4 ([115, 116, 97, 109, 112, 115] : List UInt8) _ ⟨rfl, rfl⟩
                have hq := HQ.out
                unfold optOne at hq
                rw [if_neg (by decide), if_neg (by decide), if_neg (by decide), if_neg (by decide), if_pos rfl] at hq
                clear HQ HN
                have hl := HLP.out
                clear HLP
                have hq := Option.some.inj hq
                subst hq
                have HLP : Aside0 (LoopI k gg L 5 { A with f6 := true } i9 e9 a9 (A', i', e', a')) := ⟨⟨hl, HPW.out, by omega, by omega⟩⟩
                clear hl
                obtain ⟨d0, d1, d2, d3, d4, d5, d6, d7, d8, d9, d10, d11⟩ := zc12 ⟨HS.out.st.blk⟩
                obtain ⟨f0, f1, f2, f3, f4, f5, f6, f7, f8, f9, f10, f11⟩ := zf12 ⟨HS.out.st.blk⟩
                go_wp2
                clear d0 d1 d2 d3 d4 d5 d6 d7 d8 d9 d10 d11 f0 f1 f2 f3 f4 f5 f6 f7 f8 f9 f10 f11
                go_roundg gg
                case measure => exact Nat.lt_succ_self gg
                case rel => exact ⟨5, { A with f6 := true }, Av, cv, i9, e9, a9, rfl, HLP, ⟨HS.out.put 9 (.bool true) rfl rfl⟩⟩
              · skip
                subst hn
                have hx := opt_cell HS.out.opt 5 (by decide)
                have s0 : ((rdOf ByteArray.empty optL 5).toList == ([112, 111, 108, 105, 99, 121] : List UInt8)) = false := opt_eq 5 ([118, 97, 108, 117, 101] : List UInt8) _ ⟨rfl, rfl⟩
                have s1 : ((rdOf ByteArray.empty optL 5).toList == ([102, 114, 97, 103] : List UInt8)) = false := opt_eq 5 ([118, 97, 108, 117, 101] : List UInt8) _ ⟨rfl, rfl⟩
                have s2 : ((rdOf ByteArray.empty optL 5).toList == ([104, 111, 112, 115] : List UInt8)) = false := opt_eq 5 ([118, 97, 108, 117, 101] : List UInt8) _ ⟨rfl, rfl⟩
                have s3 : ((rdOf ByteArray.empty optL 5).toList == ([119, 105, 110, 100, 111, 119] : List UInt8)) = false := opt_eq 5 ([118, 97, 108, 117, 101] : List UInt8) _ ⟨rfl, rfl⟩
                have s4 : ((rdOf ByteArray.empty optL 5).toList == ([115, 116, 97, 109, 112, 115] : List UInt8)) = false := opt_eq 5 ([118, 97, 108, 117, 101] : List UInt8) _ ⟨rfl, rfl⟩
                have s5 : ((rdOf ByteArray.empty optL 5).toList == ([118, 97, 108, 117, 101] : List UInt8)) = true := opt_eq 5 ([118, 97, 108, 117, 101] : List UInt8) _ ⟨rfl, rfl⟩
                have hq := HQ.out
                unfold optOne at hq
                rw [if_neg (by decide), if_neg (by decide), if_neg (by decide), if_neg (by decide), if_neg (by decide), if_pos rfl] at hq
                clear HQ HN
                have hl := HLP.out
                clear HLP
                obtain ⟨⟨m, i10, e10, a10⟩, hm, hq⟩ := Option.bind_eq_some_iff.1 hq
                have hq := Option.some.inj hq
                subst hq
                have HM := Aside0.mk hm
                have HLP : Aside0 (LoopI k gg L 6 { A with f7 := m } i10 e10 a10 (A', i', e', a')) := ⟨⟨hl, HPW.out.number hm, by omega, by omega⟩⟩
                clear hm hl
                go_wp2_with fail
                refine (number_walk' gg w0 w6 p c L i9 e9 a9 m i10 e10 a10 HS.out.st.par HS.out.st.bel HPW.out HM.out).mono ?_
                rintro r w7 ⟨rfl, hi, hb, hk⟩
                clear c0 c1' c2 hx
                replace HS := Aside0.mk (HS.out.keep hi hb hk)
                clear hi hb hk
                obtain ⟨d0, d1, d2, d3, d4, d5, d6, d7, d8, d9, d10, d11⟩ := zc12 ⟨HS.out.st.blk⟩
                obtain ⟨f0, f1, f2, f3, f4, f5, f6, f7, f8, f9, f10, f11⟩ := zf12 ⟨HS.out.st.blk⟩
                go_wp2
                clear d0 d1 d2 d3 d4 d5 d6 d7 d8 d9 d10 d11 f0 f1 f2 f3 f4 f5 f6 f7 f8 f9 f10 f11
                go_roundg gg
                case measure => exact Nat.lt_succ_self gg
                case rel => exact ⟨6, { A with f7 := m }, Av, cv, i10, e10, a10, rfl, HLP, ⟨HS.out.put 10 (.int .i64 m) rfl rfl⟩⟩
              · skip
                subst hn
                have hx := opt_cell HS.out.opt 6 (by decide)
                have s0 : ((rdOf ByteArray.empty optL 6).toList == ([112, 111, 108, 105, 99, 121] : List UInt8)) = false := opt_eq 6 ([115, 101, 114, 118, 105, 99, 101] : List UInt8) _ ⟨rfl, rfl⟩
                have s1 : ((rdOf ByteArray.empty optL 6).toList == ([102, 114, 97, 103] : List UInt8)) = false := opt_eq 6 ([115, 101, 114, 118, 105, 99, 101] : List UInt8) _ ⟨rfl, rfl⟩
                have s2 : ((rdOf ByteArray.empty optL 6).toList == ([104, 111, 112, 115] : List UInt8)) = false := opt_eq 6 ([115, 101, 114, 118, 105, 99, 101] : List UInt8) _ ⟨rfl, rfl⟩
                have s3 : ((rdOf ByteArray.empty optL 6).toList == ([119, 105, 110, 100, 111, 119] : List UInt8)) = false := opt_eq 6 ([115, 101, 114, 118, 105, 99, 101] : List UInt8) _ ⟨rfl, rfl⟩
                have s4 : ((rdOf ByteArray.empty optL 6).toList == ([115, 116, 97, 109, 112, 115] : List UInt8)) = false := opt_eq 6 ([115, 101, 114, 118, 105, 99, 101] : List UInt8) _ ⟨rfl, rfl⟩
                have s5 : ((rdOf ByteArray.empty optL 6).toList == ([118, 97, 108, 117, 101] : List UInt8)) = false := opt_eq 6 ([115, 101, 114, 118, 105, 99, 101] : List UInt8) _ ⟨rfl, rfl⟩
                have hq := HQ.out
                unfold optOne at hq
                rw [if_neg (by decide), if_neg (by decide), if_neg (by decide), if_neg (by decide), if_neg (by decide), if_neg (by decide)] at hq
                clear HQ HN
                have hl := HLP.out
                clear HLP
                obtain ⟨⟨m1, i10, e10, a10⟩, hm1, hq⟩ := Option.bind_eq_some_iff.1 hq
                obtain ⟨⟨m2, i11, e11, a11⟩, hm2, hq⟩ := Option.bind_eq_some_iff.1 hq
                obtain ⟨⟨m3, i12, e12, a12⟩, hm3, hq⟩ := Option.bind_eq_some_iff.1 hq
                simp only at hm2 hm3 hq
                have hlen : A.f8.length < 1000000 := by
                  split at hq
                  · assumption
                  · cases hq
                rw [if_pos hlen] at hq
                have HLEN := Aside0.mk hlen
                have hq := Option.some.inj hq
                subst hq
                have HM1 := Aside0.mk hm1
                have HM2 := Aside0.mk hm2
                have HM3 := Aside0.mk hm3
                have HP1 := Aside0.mk (HPW.out.choice hm1)
                have HP2 := Aside0.mk (HP1.out.number hm2)
                have HLP : Aside0 (LoopI k gg L 6 { A with f8 := A.f8 ++ [⟨if m1 = 1 then 17 else 6, m2, m3⟩] } i12 e12 a12 (A', i', e', a')) := ⟨⟨hl, HP2.out.choice hm3, by omega, by omega⟩⟩
                clear hm1 hm2 hm3 hl hlen
                go_upto_region 29 with (fail)
                clear hx c0 c1' c2
                have HV := Aside0.mk (StV.new HS.out #[.int .i64 6, .int .i64 0, .int .i64 0])
                obtain ⟨gs, hgs⟩ : ∃ x, w6.heap.size = x := ⟨_, rfl⟩
                rw [hgs] at HV
                simp only [hgs]
                clear hgs HS
                generalize w6.alloc (.cells #[.int .i64 6, .int .i64 0, .int .i64 0] 74) = W6 at HV ⊢
                go_wp2_with fail
                have HLS : Aside0 (∀ W', KeepPC (W6.alloc (.cells (proL.map Value.string).toArray 9)) W' p c → Kd.C Kd.string W' (some ⟨W6.heap.size, 0, none⟩) proL.length proL) := ⟨strs_kept (lit_strs W6 W6.heap.size (Nat.le_refl _) proL (by decide)) HV.out.so.st.par.lt HV.out.so.st.par.cur.lt⟩
                replace HV := Aside0.mk (HV.out.alloc (.cells (proL.map Value.string).toArray 9))
                refine (choice_walk gg w0 (W6.alloc (.cells (proL.map Value.string).toArray 9)) p c L i9 e9 a9 m1 i10 e10 a10 _ 2 proL HV.out.so.st.par HV.out.so.st.bel HPW.out HLS.out (by decide) HM1.out).mono ?_
                rintro r w7 ⟨rfl, hi, hb, hk⟩
                replace HV := Aside0.mk (HV.out.keep hi hb hk)
                clear hi hb hk HLS
                go_upto_if 100 with (fail)
                go_cut [] (fun wc => Aside0 (StV w0 w wc p c g B gs L A (.slice Av A.f8.length cv) (.slice (some ⟨go, 0, none⟩) 7 7) i10 e10 a10 #[.int .i64 (if m1 = 1 then 17 else 6), .int .i64 0, .int .i64 0]))
                case first =>
                  by_cases hm : m1 = 1
                  · have b5 : (m1 == 1) = true := beq_iff_eq.mpr hm
                    have HE1 : Aside0 ((if m1 = 1 then 17 else 6 : Int) = 17) := ⟨if_pos hm⟩
                    clear hm
                    obtain ⟨d0, d1, d2⟩ := zc3 ⟨HV.out.sv⟩
                    obtain ⟨f0, f1, f2⟩ := zf3 ⟨HV.out.sv⟩
                    go_wp2
                    go_meet
                    case rel => exact ⟨by rw [HE1.out]; exact HV.out.put 0 (.int .i64 17)⟩
                  · have b5 : (m1 == 1) = false := beq_eq_false_iff_ne.mpr hm
                    have HE1 : Aside0 ((if m1 = 1 then 17 else 6 : Int) = 6) := ⟨if_neg hm⟩
                    clear hm
                    go_wp2
                    go_meet
                    case rel => exact ⟨by rw [HE1.out]; exact HV.out⟩
                case rest =>
                  clear HV
                  obtain ⟨HV⟩ := hcut
                  replace HV := Aside0.mk HV
                  obtain ⟨pr, hpr⟩ : ∃ x : Int, (if m1 = 1 then 17 else 6) = x := ⟨_, rfl⟩
                  rw [hpr] at HV HLP
                  clear hpr
                  go_wp2_with fail
                  refine (number_walk' gg w0 _ p c L i10 e10 a10 m2 i11 e11 a11 HV.out.so.st.par HV.out.so.st.bel HP1.out HM2.out).mono ?_
                  rintro r w8 ⟨rfl, hi, hb, hk⟩
                  replace HV := Aside0.mk (HV.out.keep hi hb hk)
                  clear hi hb hk
                  obtain ⟨d0, d1, d2⟩ := zc3 ⟨HV.out.sv⟩
                  obtain ⟨f0, f1, f2⟩ := zf3 ⟨HV.out.sv⟩
                  go_upto_region 32 with (fail)
                  clear d0 d1 d2 f0 f1 f2
                  replace HV : Aside0 (StV w0 w (w8.setCell ⟨gs, 1, none⟩ (.int .i64 m2)) p c g B gs L A (.slice Av A.f8.length cv) (.slice (some ⟨go, 0, none⟩) 7 7) i11 e11 a11 #[.int .i64 pr, .int .i64 m2, .int .i64 0]) := ⟨HV.out.put 1 (.int .i64 m2)⟩
                  generalize w8.setCell ⟨gs, 1, none⟩ (.int .i64 m2) = W8' at HV ⊢
                  go_wp2_with fail
                  refine (asset_apps.calls appL W8' rfl).mono ?_
                  rintro r w9 ⟨v9, rfl, ho, hb⟩
                  obtain ⟨A9, c9, hv⟩ := Kd.R_slice ho
                  subst hv
                  have HLS := Aside0.mk (strs_kept ho HV.out.so.st.par.lt HV.out.so.st.par.cur.lt)
                  have hcap : 5 ≤ c9 := (Kd.R_reads' ho).2.1
                  replace HV := Aside0.mk (HV.out.below hb)
                  clear hb ho
                  go_wp2_with fail
                  refine (choice_walk gg w0 w9 p c L i11 e11 a11 m3 i12 e12 a12 A9 c9 appL HV.out.so.st.par HV.out.so.st.bel HP2.out HLS.out hcap HM3.out).mono ?_
                  rintro r w10 ⟨rfl, hi, hb, hk⟩
                  replace HV := Aside0.mk (HV.out.keep hi hb hk)
                  clear hi hb hk hcap HLS
                  obtain ⟨d0, d1, d2⟩ := zc3 ⟨HV.out.sv⟩
                  obtain ⟨f0, f1, f2⟩ := zf3 ⟨HV.out.sv⟩
                  go_upto_region 33 with (fail)
                  clear d0 d1 d2 f0 f1 f2
                  replace HV : Aside0 (StV w0 w (w10.setCell ⟨gs, 2, none⟩ (.int .i64 m3)) p c g B gs L A (.slice Av A.f8.length cv) (.slice (some ⟨go, 0, none⟩) 7 7) i12 e12 a12 #[.int .i64 pr, .int .i64 m2, .int .i64 m3]) := ⟨HV.out.put 2 (.int .i64 m3)⟩
                  generalize w10.setCell ⟨gs, 2, none⟩ (.int .i64 m3) = W10 at HV ⊢
                  obtain ⟨d0, d1, d2⟩ := zc3 ⟨HV.out.sv⟩
                  obtain ⟨x0, x1, x2, x3, x4, x5, x6, x7, x8, x9, x10, x11⟩ := zc12 ⟨HV.out.so.st.blk⟩
                  go_wp2_with (at_builtin; refine Kd.R_append k74 (w0 := W10) w.heap.size rfl (.tmp 110) (.tmp 112) 34 74 (.agg #[.int .i64 0, .int .i64 0, .int .i64 0]) 24 rfl Tryz.underlying34 info74 rfl (by decide) (by omega) (.slice Av A.f8.length cv) A.f8 ⟨pr, m2, m3⟩ [.int .i64 pr, .int .i64 m2, .int .i64 m3] (fun _ => True) (fun _ => False) rfl (by go_simp) (k74_mkM _ _ _ ⟨pr, m2, m3⟩) (fun _ hk => hk.elim) (fun _ _ => trivial) HV.out.so.st.row (Below.refl _ _) ?aS ?aL ?_)
                  case aS => have := HV.out.ge; have := blk_lt HV.out.sv; omega
                  case aL => have := HLEN.out; omega
                  intro v1 w11 ho hb1 hg hat
                  obtain ⟨A11, c11, hv⟩ := Kd.R_slice ho
                  subst hv
                  have HZ := Aside0.mk (HV.out.so.append ⟨pr, m2, m3⟩ ho hg)
                  have hB11 : w11.heap[B]? = some (.cells (assetCells A (.slice Av A.f8.length cv)) 36 (0, 0)) := blk_grown HV.out.so.st.blk hg (Kd.R_ne HV.out.so.st.row HV.out.so.st.blk (by decide))
                  have HB11 := Aside0.mk hB11
                  obtain ⟨n11, hn11⟩ : ∃ x, (A.f8 ++ [(⟨pr, m2, m3⟩ : S74)]).length = x := ⟨_, rfl⟩
                  rw [hn11] at HZ ⊢
                  have HN11 := Aside0.mk hn11
                  clear hn11
                  clear ho hb1 hg hat d0 d1 d2 x0 x1 x2 x3 x4 x5 x6 x7 x8 x9 x10 x11 hB11
                  obtain ⟨x0, x1, x2, x3, x4, x5, x6, x7, x8, x9, x10, x11⟩ := zc12 HB11
                  obtain ⟨f0, f1, f2, f3, f4, f5, f6, f7, f8, f9, f10, f11⟩ := zf12 HB11
                  go_wp2
                  clear f0 f1 f2 f3 f4 f5 f6 f7 f8 f9 f10 f11 x0 x1 x2 x3 x4 x5 x6 x7 x8 x9 x10 x11
                  go_roundg gg
                  case measure => exact Nat.lt_succ_self gg
                  case rel => exact ⟨6, { A with f8 := A.f8 ++ [⟨pr, m2, m3⟩] }, A11, c11, i12, e12, a12, rfl, HLP, ⟨show StO w0 w (w11.setCell ⟨B, 11, none⟩ (.slice A11 n11 c11)) p c g B L { A with f8 := A.f8 ++ [⟨pr, m2, m3⟩] } (.slice A11 (A.f8 ++ [(⟨pr, m2, m3⟩ : S74)]).length c11) (.slice (some ⟨go, 0, none⟩) 7 7) i12 e12 a12 from by rw [HN11.out]; exact HZ.out⟩⟩
        · have HR := Aside0.mk (HL.out.bad he)
          have b1 : (ez == 0) = false := beq_eq_false_iff_ne.mpr he
          clear he
          obtain ⟨d0, d1, d2, d3, d4, d5, d6, d7, d8, d9, d10, d11⟩ := zc12 ⟨HS.out.st.blk⟩
          obtain ⟨r0, r1, r2, r3, r4, r5, r6, r7, r8, r9, r10, r11⟩ := zc12 ⟨HS.out.st.res⟩
          obtain ⟨f0, f1, f2, f3, f4, f5, f6, f7, f8, f9, f10, f11⟩ := zf12 ⟨HS.out.st.res⟩
          have hgB : (g = B) = False := eq_false HS.out.st.ne
          have hBg : (B = g) = False := eq_false (Ne.symm HS.out.st.ne)
          have hzg := blk_lt HS.out.st.res
          go_wp2
          exact bodyPost_ret (v := .agg (assetCells A (.slice Av A.f8.length cv))) (by simp [results, Tryz.results49, go_sem, r0, r1, r2, r3, r4, r5, r6, r7, r8, r9, r10, r11, hzg]) rfl (HS.out.st.fin.all HR.out)
end Go.Proofs.YtnphnhkinjppjaaGreatDoor.Q
end

section
set_option maxHeartbeats 8000000
set_option maxRecDepth 100000
namespace Go.Proofs.YtnphnhkinjppjaaGreatDoor.Q
open Go.RowKit Go.Proofs.YtnphnhkinjppjaaGreatDoorW.PrintWords Go.Proofs.YtnphnhkinjppjaaGreatDoorW.PrintLast Go.Proofs.YtnphnhkinjppjaaGreatDoorW.PrintMore
theorem clone_walk (w : World) (A0 : Option Addr) (c0 : Nat) (L : List (S84)) (hC : Kd.C k84 w A0 L.length L) (hp : L ≠ []) (hL : L.length ≤ 1000000) :
    Calls Tryz.prog 69 #[.slice A0 L.length c0] w fun e w' => ∃ v, e = .returned v ∧ Kd.R k84 84 w' w.heap.size (fun _ => True) v L ∧ Below w.heap.size w w' := by
  have hpos : 0 < L.length := List.length_pos_iff.2 hp
  obtain ⟨ad, rfl, _⟩ := at_T84 hC 0 (by omega) (by omega)
  have HC := Aside0.mk hC
  have HL := Aside0.mk hL
  obtain ⟨n, hn⟩ : ∃ n, L.length = n := ⟨_, rfl⟩
  have HN := Aside0.mk hn
  rw [hn] at hpos
  rw [hn]
  clear hC hL hp hn
  go_enter Tryz.func69, Tryz.ntmps69
  have he : ∀ W, (binOp .eql 86 (.slice (some ad) n c0) (.slice none 0 0)).run Tryz.prog W = .ok (.bool false) W := fun W => Lib.run_eql_slice_nil W 86 84 (some ad) n c0 0 0 Tryz.underlying86
  go_wp2_with (at_builtin; refine Kd.R_append_rows k84 (Rr := k84.K (w.alloc (.cells #[] 84))) (w0 := w) w.heap.size rfl (.tmp 5) (.tmp 6) 86 84 (.agg #[.int .i64 0, .string ⟨#[]⟩, .int .i64 0]) 32 rfl Tryz.underlying86 info84 rfl (by decide) (by decide) (.slice (some ⟨w.heap.size, 0, none⟩) 0 0) [] L (some ad) n c0 (fun _ => True) (fun _ => False) rfl rfl ?aO ?aR ?aK (fun _ h => h.elim) (fun _ _ => trivial) ?aB ?aS ?aL ?_)
  case aO => exact ⟨fun _ _ => trivial, [], ⟨by simp, .inr ⟨w.heap.size, 0, #[], rfl, Nat.le_refl _, heap_alloc_new w _, Nat.le_refl _, by simp [maxLen], rfl, rfl⟩⟩, Reps.none _ _⟩
  case aR => exact (by have h := Kd.C_below HC.out (below_alloc (Below.refl w.heap.size w) (.cells #[] 84)); rw [HN.out] at h; exact h)
  case aK => exact fun x cs h => by rw [k84_open h]; exact k84_mkM _ _ _ _
  case aB => exact below_alloc (Below.refl w.heap.size w) _
  case aS => simp
  case aL => have := HL.out; rw [HN.out] at this; simp; omega
  intro v1 w1 ho hb hg hat
  have HO := Aside0.mk ho
  have HB := Aside0.mk hb
  clear ho hb hg hat
  obtain ⟨A1, c1, hv⟩ := Kd.R_slice HO.out
  subst hv
  go_wp2
  go_ret
  exact ⟨_, rfl, HO.out, HB.out⟩
end Go.Proofs.YtnphnhkinjppjaaGreatDoor.Q
end

section
set_option maxHeartbeats 8000000
set_option maxRecDepth 100000
namespace Go.Proofs.YtnphnhkinjppjaaGreatDoor.Q
open Go.RowKit Go.Proofs.YtnphnhkinjppjaaGreatDoorW.PrintWords Go.Proofs.YtnphnhkinjppjaaGreatDoorW.PrintLast Go.Proofs.YtnphnhkinjppjaaGreatDoorW.PrintMore
attribute [local go_sem] max2_int min2_int max_two min_two max_three min_three max_four min_four
def lexer_skip_1.f (a0 : Int) : Option (Bool) := some (a0 != 10)
theorem lexer_skip_1.calls (a0 : Int) (r : Bool) (w : World) (h : lexer_skip_1.f a0 = some r) :
 Calls Tryz.prog 128 #[.int .u8 a0] w fun e w' => e = .returned (.bool r) ∧ Drawn0 w w' := by
 unfold lexer_skip_1.f at h; have H := h
 clear h
 obtain rfl := Option.some.inj H
 go_enter Tryz.func128, Tryz.ntmps128
 go_wp2
 go_ret
 exact ⟨by first | rfl | (simp; done) | (simp [*]; done), by repeat (first | exact Drawn0.refl _ | apply Drawn0.step)⟩
def lexer_while_at_lexer_skip_1.l0 : Nat → ByteArray → Int → Option (Int)
  | 0, _, _ => none
  | k + 1, x0, x1 => if x1 < (x0.size : Int) then (if 0 ≤ x1 then ((lexer_skip_1.f (bt x0 x1)).bind fun t150 => (if t150 = true then (lexer_while_at_lexer_skip_1.l0 k x0 (wrap64 (x1 + 1))) else (some x1))) else (none)) else (some x1)
def lexer_while_at_lexer_skip_1.f (k : Nat) (a0 : ByteArray) (a1 : Int)  : Option (Int) := lexer_while_at_lexer_skip_1.l0 k a0 a1
theorem lexer_while_at_lexer_skip_1.mono_l : ∀ k, (∀ y0 y1, LeO (lexer_while_at_lexer_skip_1.l0 k y0 y1) (lexer_while_at_lexer_skip_1.l0 (k + 1) y0 y1))
  | 0 => fun _ _ r h => by simp [lexer_while_at_lexer_skip_1.l0] at h
  | k + 1 => by
    have ih0 := lexer_while_at_lexer_skip_1.mono_l k
    · intro y0 y1
      unfold lexer_while_at_lexer_skip_1.l0
      repeat' first
      | (with_reducible exact ih0 _ _)
      | (with_reducible exact LeO.refl _)
      | (with_reducible exact LeO.none _)
      | (with_reducible refine LeO.ite ?_ ?_)
      | (with_reducible refine LeO.bind ?_ (fun _ => ?_))
theorem lexer_while_at_lexer_skip_1.mono : ∀ a0 a1 k, LeO (lexer_while_at_lexer_skip_1.f k a0 a1) (lexer_while_at_lexer_skip_1.f (k + 1) a0 a1) := by
  intro a0 a1 k
  have ih0 := lexer_while_at_lexer_skip_1.mono_l k
  unfold lexer_while_at_lexer_skip_1.f
  repeat' first
      | (with_reducible exact ih0 _ _)
      | (with_reducible exact LeO.refl _)
      | (with_reducible exact LeO.none _)
      | (with_reducible refine LeO.ite ?_ ?_)
      | (with_reducible refine LeO.bind ?_ (fun _ => ?_))
theorem lexer_while_at_lexer_skip_1.calls (k : Nat) (a0 : ByteArray) (a1 : Int)  (r : Int) (w : World) (h : lexer_while_at_lexer_skip_1.f k a0 a1 = some r) :
 Calls Tryz.prog 89 #[.string a0, .int .i64 a1, (.func (.func 128) #[] #[])] w fun e w' => e = .returned (.int .i64 r) ∧ Drawn0 w w' := by
 unfold lexer_while_at_lexer_skip_1.f at h; have H := h
 clear h
 have H' := Aside0.mk H
 clear H
 go_enter Tryz.func89, Tryz.ntmps89
 go_wp2
 go_loopg [1] k (fun kq v1 w' => ∃ (x1_1 : Int), v1 = .int .i64 x1_1 ∧ Aside0 (lexer_while_at_lexer_skip_1.l0 kq a0 x1_1 = some r) ∧ Aside0 (kq ≤ k) ∧ Drawn0 w w')
 case atStart => exact ⟨(a1), zI, H', ⟨Nat.le_refl _⟩, by repeat (first | exact Drawn0.refl _ | apply Drawn0.step)⟩
 case round =>
  clear H'
  obtain ⟨x1_1, rfl, HA, HK1, ⟨m1, rfl⟩⟩ := hrel
  rcases gk with _ | k1
  · exact absurd HA.out (by simp [lexer_while_at_lexer_skip_1.l0])
  have H := HA.out
  clear HA
  simp only [lexer_while_at_lexer_skip_1.l0] at H
  by_cases c4 : x1_1 < (a0.size : Int)
  rotate_left
  · rw [if_neg c4] at H
    have c4b0 : decide (x1_1 < (a0.size : Int)) = false := decide_eq_false c4; clear c4
    obtain rfl := Option.some.inj H
    go_wp2
    go_ret
    exact ⟨by first | rfl | (simp; done) | (simp [*]; done), by repeat (first | exact Drawn0.refl _ | apply Drawn0.step)⟩
  rw [if_pos c4] at H
  have c4b0 : decide (x1_1 < (a0.size : Int)) = true := decide_eq_true c4; clear c4
  by_cases c5 : 0 ≤ x1_1
  rotate_left
  · rw [if_neg c5] at H
    exact absurd H (by simp)
  rw [if_pos c5] at H
  have c5b0 : decide (0 ≤ x1_1) = true := decide_eq_true c5; clear c5
  replace H := Option.bind_eq_some_iff.mp H
  obtain ⟨t150, A70, H⟩ := H
  try dsimp only at H
  have A7 := Aside0.mk A70; clear A70
  by_cases c8 : t150 = true
  · subst c8
    rw [if_pos rfl] at H
    have H' := Aside0.mk H
    clear H
    have p6 : 0 ≤ (x1_1 : Int) := za
    have q6 : x1_1 < (a0.size : Int) := za
    have hx6 := bt_at a0 x1_1
    replace p6 := eq_true p6
    replace q6 := eq_true q6
    go_wp2_with (first | (go_at_call 128; (with_reducible refine (lexer_skip_1.calls (bt a0 x1_1) true _ A7.out).mono ?_); rintro e w' ⟨rfl, ⟨nd, rfl⟩⟩))
    go_roundg k1
    case measure => have := HK1.out; omega
    case rel => exact ⟨(wrap64 (x1_1 + 1)), zI, H', ⟨by have := HK1.out; omega⟩, by repeat (first | exact Drawn0.refl _ | apply Drawn0.step)⟩
  replace c8 := Bool.eq_false_iff.mpr c8
  subst c8; rw [if_neg zF] at H
  obtain rfl := Option.some.inj H
  have p6 : 0 ≤ (x1_1 : Int) := za
  have q6 : x1_1 < (a0.size : Int) := za
  have hx6 := bt_at a0 x1_1
  replace p6 := eq_true p6
  replace q6 := eq_true q6
  go_wp2_with (first | (go_at_call 128; (with_reducible refine (lexer_skip_1.calls (bt a0 x1_1) false _ A7.out).mono ?_); rintro e w' ⟨rfl, ⟨nd, rfl⟩⟩))
  go_ret
  exact ⟨by first | rfl | (simp; done) | (simp [*]; done), by repeat (first | exact Drawn0.refl _ | apply Drawn0.step)⟩
def lexer_skip.l0 : Nat → ByteArray → Int → Option (Int)
  | 0, _, _ => none
  | k + 1, x0, x1 => if x1 < (x0.size : Int) then (if 0 ≤ x1 then ((lexer_class.f k (bt x0 x1)).bind fun t151 => (if t151 = 1 then (lexer_skip.l0 k x0 (wrap64 (x1 + 1))) else (if (bt x0 x1) = 35 then ((lexer_while_at_lexer_skip_1.f k x0 x1).bind fun t152 => (lexer_skip.l0 k x0 t152)) else (some x1)))) else (none)) else (some x1)
def lexer_skip.f (k : Nat) (a0 : ByteArray) (a1 : Int) : Option (Int) := lexer_skip.l0 k a0 a1
theorem lexer_skip.mono_l : ∀ k, (∀ y0 y1, LeO (lexer_skip.l0 k y0 y1) (lexer_skip.l0 (k + 1) y0 y1))
  | 0 => fun _ _ r h => by simp [lexer_skip.l0] at h
  | k + 1 => by
    have ih0 := lexer_skip.mono_l k
    · intro y0 y1
      unfold lexer_skip.l0
      repeat' first
      | (with_reducible exact ih0 _ _)
      | (with_reducible exact lexer_class.mono _ _)
      | (with_reducible exact lexer_while_at_lexer_skip_1.mono _ _ _)
      | (with_reducible exact LeO.refl _)
      | (with_reducible exact LeO.none _)
      | (with_reducible refine LeO.ite ?_ ?_)
      | (with_reducible refine LeO.bind ?_ (fun _ => ?_))
theorem lexer_skip.mono : ∀ a0 a1 k, LeO (lexer_skip.f k a0 a1) (lexer_skip.f (k + 1) a0 a1) := by
  intro a0 a1 k
  have ih0 := lexer_skip.mono_l k
  unfold lexer_skip.f
  repeat' first
      | (with_reducible exact ih0 _ _)
      | (with_reducible exact lexer_class.mono _ _)
      | (with_reducible exact lexer_while_at_lexer_skip_1.mono _ _ _)
      | (with_reducible exact LeO.refl _)
      | (with_reducible exact LeO.none _)
      | (with_reducible refine LeO.ite ?_ ?_)
      | (with_reducible refine LeO.bind ?_ (fun _ => ?_))
theorem lexer_skip.calls (k : Nat) (a0 : ByteArray) (a1 : Int) (r : Int) (w : World) (h : lexer_skip.f k a0 a1 = some r) :
 Calls Tryz.prog 101 #[.string a0, .int .i64 a1] w fun e w' => e = .returned (.int .i64 r) ∧ Drawn0 w w' := by
 unfold lexer_skip.f at h; have H := h
 clear h
 have H' := Aside0.mk H
 clear H
 go_enter Tryz.func101, Tryz.ntmps101
 go_wp2
 go_loopg [1] k (fun kq v1 w' => ∃ (x1_1 : Int), v1 = .int .i64 x1_1 ∧ Aside0 (lexer_skip.l0 kq a0 x1_1 = some r) ∧ Aside0 (kq ≤ k) ∧ Drawn0 w w')
 case atStart => exact ⟨(a1), zI, H', ⟨Nat.le_refl _⟩, by repeat (first | exact Drawn0.refl _ | apply Drawn0.step)⟩
 case round =>
  clear H'
  obtain ⟨x1_1, rfl, HA, HK1, ⟨m1, rfl⟩⟩ := hrel
  rcases gk with _ | k1
  · exact absurd HA.out (by simp [lexer_skip.l0])
  have H := HA.out
  clear HA
  simp only [lexer_skip.l0] at H
  by_cases c3 : x1_1 < (a0.size : Int)
  rotate_left
  · rw [if_neg c3] at H
    have c3b0 : decide (x1_1 < (a0.size : Int)) = false := decide_eq_false c3; clear c3
    obtain rfl := Option.some.inj H
    go_wp2
    go_ret
    exact ⟨by first | rfl | (simp; done) | (simp [*]; done), by repeat (first | exact Drawn0.refl _ | apply Drawn0.step)⟩
  rw [if_pos c3] at H
  have c3b0 : decide (x1_1 < (a0.size : Int)) = true := decide_eq_true c3; clear c3
  by_cases c4 : 0 ≤ x1_1
  rotate_left
  · rw [if_neg c4] at H
    exact absurd H (by simp)
  rw [if_pos c4] at H
  have c4b0 : decide (0 ≤ x1_1) = true := decide_eq_true c4; clear c4
  replace H := Option.bind_eq_some_iff.mp H
  obtain ⟨t151, A60, H⟩ := H
  try dsimp only at H
  have A6 := Aside0.mk A60; clear A60
  by_cases c7 : t151 = 1
  · rw [if_pos c7] at H
    have c7b0 : (t151 == 1) = true := beq_iff_eq.mpr c7; have c7b1 : (t151 != 1) = false := bne_eq_false_iff_eq.mpr c7; clear c7
    have H' := Aside0.mk H
    clear H
    have p5 : 0 ≤ (x1_1 : Int) := za
    have q5 : x1_1 < (a0.size : Int) := za
    have hx5 := bt_at a0 x1_1
    replace p5 := eq_true p5
    replace q5 := eq_true q5
    go_wp2_with (first | ((with_reducible refine gate_callee (f := 88) rfl ?_); refine zgl 14 Tryz.func88 #[.int .u8 (bt a0 x1_1)] ?_; (with_reducible refine (lexer_class.calls k1 (bt a0 x1_1) t151 _ A6.out).mono ?_); rintro e w' ⟨rfl, ⟨nd, rfl⟩⟩; refine ⟨_, rfl, ?_⟩))
    go_roundg k1
    case measure => have := HK1.out; omega
    case rel => exact ⟨(wrap64 (x1_1 + 1)), zI, H', ⟨by have := HK1.out; omega⟩, by repeat (first | exact Drawn0.refl _ | apply Drawn0.step)⟩
  rw [if_neg c7] at H
  have c7b0 : (t151 == 1) = false := beq_eq_false_iff_ne.mpr c7
  have c7b1 : (t151 != 1) = true := bne_iff_ne.mpr c7
  by_cases c9 : (bt a0 x1_1) = 35
  · rw [if_pos c9] at H
    have c9b0 : ((bt a0 x1_1) == 35) = true := beq_iff_eq.mpr c9; have c9b1 : ((bt a0 x1_1) != 35) = false := bne_eq_false_iff_eq.mpr c9; clear c9
    replace H := Option.bind_eq_some_iff.mp H
    obtain ⟨t152, A100, H⟩ := H
    try dsimp only at H
    have A10 := Aside0.mk A100; clear A100
    have H' := Aside0.mk H
    clear H
    have p5 : 0 ≤ (x1_1 : Int) := za
    have q5 : x1_1 < (a0.size : Int) := za
    have hx5 := bt_at a0 x1_1
    replace p5 := eq_true p5
    replace q5 := eq_true q5
    go_wp2_with (first | ((with_reducible refine gate_callee (f := 88) rfl ?_); refine zgl 14 Tryz.func88 #[.int .u8 (bt a0 x1_1)] ?_; (with_reducible refine (lexer_class.calls k1 (bt a0 x1_1) t151 _ A6.out).mono ?_); rintro e w' ⟨rfl, ⟨nd, rfl⟩⟩; refine ⟨_, rfl, ?_⟩; have p8 : 0 ≤ (x1_1 : Int) := za; have q8 : x1_1 < (a0.size : Int) := za; have hx8 := bt_at a0 x1_1; replace p8 := eq_true p8; replace q8 := eq_true q8) | ((with_reducible refine gate_callee (f := 89) rfl ?_); refine zgl 25 Tryz.func89 #[.string a0, .int .i64 x1_1, (.func (.func 128) #[] #[])] ?_; (with_reducible refine (lexer_while_at_lexer_skip_1.calls k1 a0 x1_1  t152 _ A10.out).mono ?_); rintro e w' ⟨rfl, ⟨nd, rfl⟩⟩; refine ⟨_, rfl, ?_⟩))
    go_roundg k1
    case measure => have := HK1.out; omega
    case rel => exact ⟨(t152), zI, H', ⟨by have := HK1.out; omega⟩, by repeat (first | exact Drawn0.refl _ | apply Drawn0.step)⟩
  rw [if_neg c9] at H
  have c9b0 : ((bt a0 x1_1) == 35) = false := beq_eq_false_iff_ne.mpr c9
  have c9b1 : ((bt a0 x1_1) != 35) = true := bne_iff_ne.mpr c9
  obtain rfl := Option.some.inj H
  have p5 : 0 ≤ (x1_1 : Int) := za
  have q5 : x1_1 < (a0.size : Int) := za
  have hx5 := bt_at a0 x1_1
  replace p5 := eq_true p5
  replace q5 := eq_true q5
  go_wp2_with (first | ((with_reducible refine gate_callee (f := 88) rfl ?_); refine zgl 14 Tryz.func88 #[.int .u8 (bt a0 x1_1)] ?_; (with_reducible refine (lexer_class.calls k1 (bt a0 x1_1) t151 _ A6.out).mono ?_); rintro e w' ⟨rfl, ⟨nd, rfl⟩⟩; refine ⟨_, rfl, ?_⟩; have p8 : 0 ≤ (x1_1 : Int) := za; have q8 : x1_1 < (a0.size : Int) := za; have hx8 := bt_at a0 x1_1; replace p8 := eq_true p8; replace q8 := eq_true q8))
  go_ret
  exact ⟨by first | rfl | (simp; done) | (simp [*]; done), by repeat (first | exact Drawn0.refl _ | apply Drawn0.step)⟩
def lexer_inWord.f (k : Nat) (a0 : Int) : Option (Bool) := (lexer_class.f k a0).bind fun t153 => (some (decide (t153 ≥ 2)))
theorem lexer_inWord.mono : ∀ a0 k, LeO (lexer_inWord.f k a0) (lexer_inWord.f (k + 1) a0) := by
  intro a0 k
  unfold lexer_inWord.f
  repeat' first
      | (with_reducible exact lexer_class.mono _ _)
      | (with_reducible exact LeO.refl _)
      | (with_reducible exact LeO.none _)
      | (with_reducible refine LeO.ite ?_ ?_)
      | (with_reducible refine LeO.bind ?_ (fun _ => ?_))
theorem lexer_inWord.calls (k : Nat) (a0 : Int) (r : Bool) (w : World) (h : lexer_inWord.f k a0 = some r) :
 Calls Tryz.prog 129 #[.int .u8 a0] w fun e w' => e = .returned (.bool r) ∧ Drawn0 w w' := by
 unfold lexer_inWord.f at h; have H := h
 clear h
 replace H := Option.bind_eq_some_iff.mp H
 obtain ⟨t153, A20, H⟩ := H
 try dsimp only at H
 have A2 := Aside0.mk A20; clear A20
 obtain rfl := Option.some.inj H
 go_enter Tryz.func129, Tryz.ntmps129
 go_wp2_with (first | ((with_reducible refine gate_callee (f := 88) rfl ?_); refine zgl 4 Tryz.func88 #[.int .u8 a0] ?_; (with_reducible refine (lexer_class.calls k a0 t153 _ A2.out).mono ?_); rintro e w' ⟨rfl, ⟨nd, rfl⟩⟩; refine ⟨_, rfl, ?_⟩))
 go_ret
 exact ⟨by first | rfl | (simp; done) | (simp [*]; done), by repeat (first | exact Drawn0.refl _ | apply Drawn0.step)⟩
end Go.Proofs.YtnphnhkinjppjaaGreatDoor.Q
end

section
namespace Go.Proofs.YtnphnhkinjppjaaGreatDoor.Q
open Go.RowKit Go.Proofs.YtnphnhkinjppjaaGreatDoorW.PrintWords Go.Proofs.YtnphnhkinjppjaaGreatDoorW.PrintLast Go.Proofs.YtnphnhkinjppjaaGreatDoorW.PrintMore
def strings_IndexByte.f (s : ByteArray) (c : Int) : Option Int := some (Lib.indexByte s.data.toList c.toNat.toUInt8)
theorem strings_IndexByte.calls (s : ByteArray) (c : Int) (r : Int) (w : World) (h : strings_IndexByte.f s c = some r) :
    Calls Tryz.prog 149 #[.string s, .int .u8 c] w fun e w' => e = .returned (.int .i64 r) ∧ Below w.heap.size w w' := by
  unfold strings_IndexByte.f at h
  injection h with h
  subst h
  refine (Tryz.strings_IndexByte s c w).mono ?_
  rintro e w' ⟨rfl, rfl⟩
  exact ⟨rfl, Below.refl _ _⟩
end Go.Proofs.YtnphnhkinjppjaaGreatDoor.Q
end

section
set_option maxHeartbeats 8000000
set_option maxRecDepth 100000
namespace Go.Proofs.YtnphnhkinjppjaaGreatDoor.Q
open Go.RowKit Go.Proofs.YtnphnhkinjppjaaGreatDoorW.PrintWords Go.Proofs.YtnphnhkinjppjaaGreatDoorW.PrintLast Go.Proofs.YtnphnhkinjppjaaGreatDoorW.PrintMore
attribute [local go_sem] max2_int min2_int max_two min_two max_three min_three max_four min_four
def lexer_mark.j0 : Nat → ByteArray → Int → ByteArray → Bool → Option (ByteArray)
  | 0, _, _, _, _ => none
  | k + 1, x0, x1, x5, x25 => if x25 = true then (some x5) else (if 0 ≤ x1 then (if x1 < (x0.size : Int) then ((strings_IndexByte.f (⟨#[40, 41, 91, 93, 123, 125, 44, 59, 33, 61, 60, 62, 38, 43]⟩ : ByteArray) (bt x0 x1)).bind fun t160 => (if t160 ≥ 0 then (if x1 ≤ (wrap64 (x1 + 1)) then (if (wrap64 (x1 + 1)) ≤ (x0.size : Int) then (some (x0.extract (x1 : Int).toNat ((wrap64 (x1 + 1)) : Int).toNat)) else (none)) else (none)) else (some (⟨#[]⟩ : ByteArray)))) else (none)) else (none))
def lexer_mark.f (k : Nat) (a0 : ByteArray) (a1 : Int) : Option (ByteArray) := if (wrap64 (a1 + 2)) ≤ (a0.size : Int) then (if 0 ≤ a1 then (if a1 ≤ (wrap64 (a1 + 2)) then (if (a0.extract (a1 : Int).toNat ((wrap64 (a1 + 2)) : Int).toNat).toList = ([45, 62] : List UInt8) then (lexer_mark.j0 k a0 a1 (a0.extract (a1 : Int).toNat ((wrap64 (a1 + 2)) : Int).toNat) true) else (if (a0.extract (a1 : Int).toNat ((wrap64 (a1 + 2)) : Int).toNat).toList = ([60, 62] : List UInt8) then (lexer_mark.j0 k a0 a1 (a0.extract (a1 : Int).toNat ((wrap64 (a1 + 2)) : Int).toNat) true) else (lexer_mark.j0 k a0 a1 (a0.extract (a1 : Int).toNat ((wrap64 (a1 + 2)) : Int).toNat) ((a0.extract (a1 : Int).toNat ((wrap64 (a1 + 2)) : Int).toNat).toList == ([60, 61] : List UInt8))))) else (none)) else (none)) else (if 0 ≤ a1 then (if a1 < (a0.size : Int) then ((strings_IndexByte.f (⟨#[40, 41, 91, 93, 123, 125, 44, 59, 33, 61, 60, 62, 38, 43]⟩ : ByteArray) (bt a0 a1)).bind fun t161 => (if t161 ≥ 0 then (if a1 ≤ (wrap64 (a1 + 1)) then (if (wrap64 (a1 + 1)) ≤ (a0.size : Int) then (some (a0.extract (a1 : Int).toNat ((wrap64 (a1 + 1)) : Int).toNat)) else (none)) else (none)) else (some (⟨#[]⟩ : ByteArray)))) else (none)) else (none))
theorem lexer_mark.mono_l : ∀ k, (∀ y0 y1 y2 y3, LeO (lexer_mark.j0 k y0 y1 y2 y3) (lexer_mark.j0 (k + 1) y0 y1 y2 y3))
  | 0 => fun _ _ _ _ r h => by simp [lexer_mark.j0] at h
  | k + 1 => by
    have ih0 := lexer_mark.mono_l k
    · intro y0 y1 y2 y3
      unfold lexer_mark.j0
      repeat' first
      | (with_reducible exact ih0 _ _ _ _)
      | (with_reducible exact LeO.refl _)
      | (with_reducible exact LeO.none _)
      | (with_reducible refine LeO.ite ?_ ?_)
      | (with_reducible refine LeO.bind ?_ (fun _ => ?_))
theorem lexer_mark.mono : ∀ a0 a1 k, LeO (lexer_mark.f k a0 a1) (lexer_mark.f (k + 1) a0 a1) := by
  intro a0 a1 k
  have ih0 := lexer_mark.mono_l k
  unfold lexer_mark.f
  repeat' first
      | (with_reducible exact ih0 _ _ _ _)
      | (with_reducible exact LeO.refl _)
      | (with_reducible exact LeO.none _)
      | (with_reducible refine LeO.ite ?_ ?_)
      | (with_reducible refine LeO.bind ?_ (fun _ => ?_))
theorem lexer_mark.calls (k : Nat) (a0 : ByteArray) (a1 : Int) (r : ByteArray) (w : World) (h : lexer_mark.f k a0 a1 = some r) :
 Calls Tryz.prog 131 #[.string a0, .int .i64 a1] w fun e w' => e = .returned (.string r) ∧ Below w.heap.size w w' := by
 have HB := Aside0.mk (Below.refl w.heap.size w)
 unfold lexer_mark.f at h; have H := h
 clear h
 by_cases c3 : (wrap64 (a1 + 2)) ≤ (a0.size : Int)
 rotate_left
 · rw [if_neg c3] at H
   have c3b0 : decide ((wrap64 (a1 + 2)) ≤ (a0.size : Int)) = false := decide_eq_false c3; clear c3
   by_cases c21 : 0 ≤ a1
   rotate_left
   · rw [if_neg c21] at H
     exact absurd H (by simp)
   rw [if_pos c21] at H
   have c21b0 : decide (0 ≤ a1) = true := decide_eq_true c21; clear c21
   by_cases c22 : a1 < (a0.size : Int)
   rotate_left
   · rw [if_neg c22] at H
     exact absurd H (by simp)
   rw [if_pos c22] at H
   have c22b0 : decide (a1 < (a0.size : Int)) = true := decide_eq_true c22; clear c22
   replace H := Option.bind_eq_some_iff.mp H
   obtain ⟨t161, A240, H⟩ := H
   try dsimp only at H
   have A24 := Aside0.mk A240; clear A240
   by_cases c25 : t161 ≥ 0
   · rw [if_pos c25] at H
     have c25b0 : decide (0 ≤ t161) = true := decide_eq_true c25; clear c25
     have c26b0 := eq_true (of_decide_eq_true (by first | (with_reducible assumption) | assumption) : 0 ≤ a1)
     by_cases c27 : a1 ≤ (wrap64 (a1 + 1))
     rotate_left
     · rw [if_neg c27] at H
       exact absurd H (by simp)
     rw [if_pos c27] at H
     have c27b0 := eq_true c27
     have c27b1 : decide (a1 ≤ (wrap64 (a1 + 1))) = true := decide_eq_true c27
     by_cases c28 : (wrap64 (a1 + 1)) ≤ (a0.size : Int)
     rotate_left
     · rw [if_neg c28] at H
       exact absurd H (by simp)
     rw [if_pos c28] at H
     have c28b0 := eq_true c28
     have c28b1 : decide ((wrap64 (a1 + 1)) ≤ (a0.size : Int)) = true := decide_eq_true c28
     obtain rfl := Option.some.inj H
     have p23 : 0 ≤ (a1 : Int) := za
     have q23 : a1 < (a0.size : Int) := za
     have hx23 := bt_at a0 a1
     replace p23 := eq_true p23
     replace q23 := eq_true q23
     go_enter Tryz.func131, Tryz.ntmps131
     go_wp2_with (first | ((with_reducible refine gate_callee (f := 149) rfl ?_); refine zgl 30 Tryz.func149 #[.string (⟨#[40, 41, 91, 93, 123, 125, 44, 59, 33, 61, 60, 62, 38, 43]⟩ : ByteArray), .int .u8 (bt a0 a1)] ?_; (with_reducible refine (strings_IndexByte.calls (⟨#[40, 41, 91, 93, 123, 125, 44, 59, 33, 61, 60, 62, 38, 43]⟩ : ByteArray) (bt a0 a1) t161 _ A24.out).mono ?_); rintro e w29 ⟨rfl, hb⟩; refine ⟨_, rfl, ?_⟩; replace HB := Aside0.mk (below_step (zB HB) hb); (try clear hb)))
     go_ret
     exact ⟨zr, zB HB⟩
   rw [if_neg c25] at H
   have c25b0 : decide (0 ≤ t161) = false := decide_eq_false c25; clear c25
   obtain rfl := Option.some.inj H
   have p23 : 0 ≤ (a1 : Int) := za
   have q23 : a1 < (a0.size : Int) := za
   have hx23 := bt_at a0 a1
   replace p23 := eq_true p23
   replace q23 := eq_true q23
   go_enter Tryz.func131, Tryz.ntmps131
   go_wp2_with (first | ((with_reducible refine gate_callee (f := 149) rfl ?_); refine zgl 30 Tryz.func149 #[.string (⟨#[40, 41, 91, 93, 123, 125, 44, 59, 33, 61, 60, 62, 38, 43]⟩ : ByteArray), .int .u8 (bt a0 a1)] ?_; (with_reducible refine (strings_IndexByte.calls (⟨#[40, 41, 91, 93, 123, 125, 44, 59, 33, 61, 60, 62, 38, 43]⟩ : ByteArray) (bt a0 a1) t161 _ A24.out).mono ?_); rintro e w30 ⟨rfl, hb⟩; refine ⟨_, rfl, ?_⟩; replace HB := Aside0.mk (below_step (zB HB) hb); (try clear hb)))
   go_ret
   exact ⟨zr, zB HB⟩
 rw [if_pos c3] at H
 have c3b0 : decide ((wrap64 (a1 + 2)) ≤ (a0.size : Int)) = true := decide_eq_true c3; clear c3
 by_cases c4 : 0 ≤ a1
 rotate_left
 · rw [if_neg c4] at H
   exact absurd H (by simp)
 rw [if_pos c4] at H
 have c4b0 := eq_true c4
 have c4b1 : decide (0 ≤ a1) = true := decide_eq_true c4; clear c4
 by_cases c5 : a1 ≤ (wrap64 (a1 + 2))
 rotate_left
 · rw [if_neg c5] at H
   exact absurd H (by simp)
 rw [if_pos c5] at H
 have c5b0 := eq_true c5
 have c5b1 : decide (a1 ≤ (wrap64 (a1 + 2))) = true := decide_eq_true c5
 have c6b0 := eq_true (of_decide_eq_true (by first | (with_reducible assumption) | assumption) : (wrap64 (a1 + 2)) ≤ (a0.size : Int))
 have HC7 := Aside0.mk H; clear H
 go_enter Tryz.func131, Tryz.ntmps131
 go_upto_region 3 with (fail)
 go_cut [25] (fun v25 wc => ∃ (kq : Nat) (x25_6 : Bool), v25 = .bool x25_6 ∧ Aside0 (lexer_mark.j0 kq a0 a1 (a0.extract (a1 : Int).toNat ((wrap64 (a1 + 2)) : Int).toNat) x25_6 = some r) ∧ Aside0 (kq ≤ k) ∧ Aside0 (Below w.heap.size w wc))
 case first =>
  have H := HC7.out
  clear HC7
  by_cases c8 : (a0.extract (a1 : Int).toNat ((wrap64 (a1 + 2)) : Int).toNat).toList = ([45, 62] : List UInt8)
  · rw [if_pos c8] at H
    have c8b0 : ((a0.extract (a1 : Int).toNat ((wrap64 (a1 + 2)) : Int).toNat).toList == ([45, 62] : List UInt8)) = true := beq_iff_eq.mpr c8; have c8b1 : ((a0.extract (a1 : Int).toNat ((wrap64 (a1 + 2)) : Int).toNat).toList != ([45, 62] : List UInt8)) = false := bne_eq_false_iff_eq.mpr c8; clear c8
    (first | rw [c8b0] | (simp only [i64_w, i32_w]; rw [c8b0]) | skip)
    have H' := Aside0.mk H
    clear H
    go_wp2
    go_meet
    case rel => exact ⟨_, (true), zI, H', ⟨by first | omega | exact Nat.le_refl _⟩, ⟨zB HB⟩⟩
  rw [if_neg c8] at H
  have c8b0 : ((a0.extract (a1 : Int).toNat ((wrap64 (a1 + 2)) : Int).toNat).toList == ([45, 62] : List UInt8)) = false := beq_eq_false_iff_ne.mpr c8
  have c8b1 : ((a0.extract (a1 : Int).toNat ((wrap64 (a1 + 2)) : Int).toNat).toList != ([45, 62] : List UInt8)) = true := bne_iff_ne.mpr c8
  (first | rw [c8b0] | (simp only [i64_w, i32_w]; rw [c8b0]) | skip)
  by_cases c9 : (a0.extract (a1 : Int).toNat ((wrap64 (a1 + 2)) : Int).toNat).toList = ([60, 62] : List UInt8)
  · rw [if_pos c9] at H
    have c9b0 : ((a0.extract (a1 : Int).toNat ((wrap64 (a1 + 2)) : Int).toNat).toList == ([60, 62] : List UInt8)) = true := beq_iff_eq.mpr c9; have c9b1 : ((a0.extract (a1 : Int).toNat ((wrap64 (a1 + 2)) : Int).toNat).toList != ([60, 62] : List UInt8)) = false := bne_eq_false_iff_eq.mpr c9; clear c9
    have H' := Aside0.mk H
    clear H
    go_wp2
    go_meet
    case rel => exact ⟨_, (true), zI, H', ⟨by first | omega | exact Nat.le_refl _⟩, ⟨zB HB⟩⟩
  rw [if_neg c9] at H
  have c9b0 : ((a0.extract (a1 : Int).toNat ((wrap64 (a1 + 2)) : Int).toNat).toList == ([60, 62] : List UInt8)) = false := beq_eq_false_iff_ne.mpr c9
  have c9b1 : ((a0.extract (a1 : Int).toNat ((wrap64 (a1 + 2)) : Int).toNat).toList != ([60, 62] : List UInt8)) = true := bne_iff_ne.mpr c9
  have H' := Aside0.mk H
  clear H
  go_wp2
  go_meet
  case rel => exact ⟨_, (((a0.extract (a1 : Int).toNat ((wrap64 (a1 + 2)) : Int).toNat).toList == ([60, 61] : List UInt8))), zI, H', ⟨by first | omega | exact Nat.le_refl _⟩, ⟨zB HB⟩⟩
 case rest =>
  clear HC7
  (try clear c3); (try clear c3b0); (try clear c4); (try clear c4b0); (try clear c4b1); (try clear c5); (try clear c5b0); (try clear c5b1); (try clear c6b0)
  obtain ⟨kq, x25_6, rfl, HA, HJ6, HB⟩ := hcut
  rcases kq with _ | kj6
  · exact absurd HA.out (by simp [lexer_mark.j0])
  have H := HA.out
  clear HA
  simp only [lexer_mark.j0] at H
  by_cases c10 : x25_6 = true
  · subst c10
    rw [if_pos rfl] at H
    obtain rfl := Option.some.inj H
    go_wp2
    go_ret
    exact ⟨zr, zB HB⟩
  replace c10 := Bool.eq_false_iff.mpr c10
  subst c10; rw [if_neg zF] at H
  by_cases c11 : 0 ≤ a1
  rotate_left
  · rw [if_neg c11] at H
    exact absurd H (by simp)
  rw [if_pos c11] at H
  have c11b0 : decide (0 ≤ a1) = true := decide_eq_true c11; clear c11
  by_cases c12 : a1 < (a0.size : Int)
  rotate_left
  · rw [if_neg c12] at H
    exact absurd H (by simp)
  rw [if_pos c12] at H
  have c12b0 : decide (a1 < (a0.size : Int)) = true := decide_eq_true c12; clear c12
  replace H := Option.bind_eq_some_iff.mp H
  obtain ⟨t160, A140, H⟩ := H
  try dsimp only at H
  have A14 := Aside0.mk A140; clear A140
  by_cases c15 : t160 ≥ 0
  · rw [if_pos c15] at H
    have c15b0 : decide (0 ≤ t160) = true := decide_eq_true c15; clear c15
    have c16b0 := eq_true (of_decide_eq_true (by first | (with_reducible assumption) | assumption) : 0 ≤ a1)
    by_cases c17 : a1 ≤ (wrap64 (a1 + 1))
    rotate_left
    · rw [if_neg c17] at H
      exact absurd H (by simp)
    rw [if_pos c17] at H
    have c17b0 := eq_true c17
    have c17b1 : decide (a1 ≤ (wrap64 (a1 + 1))) = true := decide_eq_true c17
    by_cases c18 : (wrap64 (a1 + 1)) ≤ (a0.size : Int)
    · rw [if_pos c18] at H
      have c18b0 := eq_true c18
      have c18b1 : decide ((wrap64 (a1 + 1)) ≤ (a0.size : Int)) = true := decide_eq_true c18
      obtain rfl := Option.some.inj H
      have p13 : 0 ≤ (a1 : Int) := za
      have q13 : a1 < (a0.size : Int) := za
      have hx13 := bt_at a0 a1
      replace p13 := eq_true p13
      replace q13 := eq_true q13
      go_wp2_with (first | ((with_reducible refine gate_callee (f := 149) rfl ?_); refine zgl 30 Tryz.func149 #[.string (⟨#[40, 41, 91, 93, 123, 125, 44, 59, 33, 61, 60, 62, 38, 43]⟩ : ByteArray), .int .u8 (bt a0 a1)] ?_; (with_reducible refine (strings_IndexByte.calls (⟨#[40, 41, 91, 93, 123, 125, 44, 59, 33, 61, 60, 62, 38, 43]⟩ : ByteArray) (bt a0 a1) t160 _ A14.out).mono ?_); rintro e w19 ⟨rfl, hb⟩; refine ⟨_, rfl, ?_⟩; replace HB := Aside0.mk (below_step (zB HB) hb); (try clear hb)))
      go_ret
      exact ⟨zr, zB HB⟩
    rw [if_neg c18] at H
    exact absurd H (by simp)
  rw [if_neg c15] at H
  have c15b0 : decide (0 ≤ t160) = false := decide_eq_false c15; clear c15
  obtain rfl := Option.some.inj H
  have p13 : 0 ≤ (a1 : Int) := za
  have q13 : a1 < (a0.size : Int) := za
  have hx13 := bt_at a0 a1
  replace p13 := eq_true p13
  replace q13 := eq_true q13
  go_wp2_with (first | ((with_reducible refine gate_callee (f := 149) rfl ?_); refine zgl 30 Tryz.func149 #[.string (⟨#[40, 41, 91, 93, 123, 125, 44, 59, 33, 61, 60, 62, 38, 43]⟩ : ByteArray), .int .u8 (bt a0 a1)] ?_; (with_reducible refine (strings_IndexByte.calls (⟨#[40, 41, 91, 93, 123, 125, 44, 59, 33, 61, 60, 62, 38, 43]⟩ : ByteArray) (bt a0 a1) t160 _ A14.out).mono ?_); rintro e w20 ⟨rfl, hb⟩; refine ⟨_, rfl, ?_⟩; replace HB := Aside0.mk (below_step (zB HB) hb); (try clear hb)))
  go_ret
  exact ⟨zr, zB HB⟩
def lexer_while_at_lexer_inWord.l0 : Nat → ByteArray → Int → Option (Int)
  | 0, _, _ => none
  | k + 1, x0, x1 => if x1 < (x0.size : Int) then (if 0 ≤ x1 then ((lexer_inWord.f k (bt x0 x1)).bind fun t162 => (if t162 = true then (lexer_while_at_lexer_inWord.l0 k x0 (wrap64 (x1 + 1))) else (some x1))) else (none)) else (some x1)
def lexer_while_at_lexer_inWord.f (k : Nat) (a0 : ByteArray) (a1 : Int)  : Option (Int) := lexer_while_at_lexer_inWord.l0 k a0 a1
theorem lexer_while_at_lexer_inWord.mono_l : ∀ k, (∀ y0 y1, LeO (lexer_while_at_lexer_inWord.l0 k y0 y1) (lexer_while_at_lexer_inWord.l0 (k + 1) y0 y1))
  | 0 => fun _ _ r h => by simp [lexer_while_at_lexer_inWord.l0] at h
  | k + 1 => by
    have ih0 := lexer_while_at_lexer_inWord.mono_l k
    · intro y0 y1
      unfold lexer_while_at_lexer_inWord.l0
      repeat' first
      | (with_reducible exact ih0 _ _)
      | (with_reducible exact lexer_inWord.mono _ _)
      | (with_reducible exact LeO.refl _)
      | (with_reducible exact LeO.none _)
      | (with_reducible refine LeO.ite ?_ ?_)
      | (with_reducible refine LeO.bind ?_ (fun _ => ?_))
theorem lexer_while_at_lexer_inWord.mono : ∀ a0 a1 k, LeO (lexer_while_at_lexer_inWord.f k a0 a1) (lexer_while_at_lexer_inWord.f (k + 1) a0 a1) := by
  intro a0 a1 k
  have ih0 := lexer_while_at_lexer_inWord.mono_l k
  unfold lexer_while_at_lexer_inWord.f
  repeat' first
      | (with_reducible exact ih0 _ _)
      | (with_reducible exact lexer_inWord.mono _ _)
      | (with_reducible exact LeO.refl _)
      | (with_reducible exact LeO.none _)
      | (with_reducible refine LeO.ite ?_ ?_)
      | (with_reducible refine LeO.bind ?_ (fun _ => ?_))
theorem lexer_while_at_lexer_inWord.calls (k : Nat) (a0 : ByteArray) (a1 : Int)  (r : Int) (w : World) (h : lexer_while_at_lexer_inWord.f k a0 a1 = some r) :
 Calls Tryz.prog 89 #[.string a0, .int .i64 a1, (.func (.func 129) #[] #[])] w fun e w' => e = .returned (.int .i64 r) ∧ Drawn0 w w' := by
 unfold lexer_while_at_lexer_inWord.f at h; have H := h
 clear h
 have H' := Aside0.mk H
 clear H
 go_enter Tryz.func89, Tryz.ntmps89
 go_wp2
 go_loopg [1] k (fun kq v1 w' => ∃ (x1_1 : Int), v1 = .int .i64 x1_1 ∧ Aside0 (lexer_while_at_lexer_inWord.l0 kq a0 x1_1 = some r) ∧ Aside0 (kq ≤ k) ∧ Drawn0 w w')
 case atStart => exact ⟨(a1), zI, H', ⟨Nat.le_refl _⟩, by repeat (first | exact Drawn0.refl _ | apply Drawn0.step)⟩
 case round =>
  clear H'
  obtain ⟨x1_1, rfl, HA, HK1, ⟨m1, rfl⟩⟩ := hrel
  rcases gk with _ | k1
  · exact absurd HA.out (by simp [lexer_while_at_lexer_inWord.l0])
  have H := HA.out
  clear HA
  simp only [lexer_while_at_lexer_inWord.l0] at H
  by_cases c4 : x1_1 < (a0.size : Int)
  rotate_left
  · rw [if_neg c4] at H
    have c4b0 : decide (x1_1 < (a0.size : Int)) = false := decide_eq_false c4; clear c4
    obtain rfl := Option.some.inj H
    go_wp2
    go_ret
    exact ⟨by first | rfl | (simp; done) | (simp [*]; done), by repeat (first | exact Drawn0.refl _ | apply Drawn0.step)⟩
  rw [if_pos c4] at H
  have c4b0 : decide (x1_1 < (a0.size : Int)) = true := decide_eq_true c4; clear c4
  by_cases c5 : 0 ≤ x1_1
  rotate_left
  · rw [if_neg c5] at H
    exact absurd H (by simp)
  rw [if_pos c5] at H
  have c5b0 : decide (0 ≤ x1_1) = true := decide_eq_true c5; clear c5
  replace H := Option.bind_eq_some_iff.mp H
  obtain ⟨t162, A70, H⟩ := H
  try dsimp only at H
  have A7 := Aside0.mk A70; clear A70
  by_cases c8 : t162 = true
  · subst c8
    rw [if_pos rfl] at H
    have H' := Aside0.mk H
    clear H
    have p6 : 0 ≤ (x1_1 : Int) := za
    have q6 : x1_1 < (a0.size : Int) := za
    have hx6 := bt_at a0 x1_1
    replace p6 := eq_true p6
    replace q6 := eq_true q6
    go_wp2_with (first | (go_at_call 129; (with_reducible refine (lexer_inWord.calls k1 (bt a0 x1_1) true _ A7.out).mono ?_); rintro e w' ⟨rfl, ⟨nd, rfl⟩⟩))
    go_roundg k1
    case measure => have := HK1.out; omega
    case rel => exact ⟨(wrap64 (x1_1 + 1)), zI, H', ⟨by have := HK1.out; omega⟩, by repeat (first | exact Drawn0.refl _ | apply Drawn0.step)⟩
  replace c8 := Bool.eq_false_iff.mpr c8
  subst c8; rw [if_neg zF] at H
  obtain rfl := Option.some.inj H
  have p6 : 0 ≤ (x1_1 : Int) := za
  have q6 : x1_1 < (a0.size : Int) := za
  have hx6 := bt_at a0 x1_1
  replace p6 := eq_true p6
  replace q6 := eq_true q6
  go_wp2_with (first | (go_at_call 129; (with_reducible refine (lexer_inWord.calls k1 (bt a0 x1_1) false _ A7.out).mono ?_); rintro e w' ⟨rfl, ⟨nd, rfl⟩⟩))
  go_ret
  exact ⟨by first | rfl | (simp; done) | (simp [*]; done), by repeat (first | exact Drawn0.refl _ | apply Drawn0.step)⟩
def lexer_plain.f (a0 : Int) : Option (Bool) := if a0 ≥ 32 then (if a0 ≤ 126 then (if a0 = 34 then (some false) else (if a0 = 92 then (some false) else (some (a0 != 124)))) else (some false)) else (some false)
theorem lexer_plain.calls (a0 : Int) (r : Bool) (w : World) (h : lexer_plain.f a0 = some r) :
 Calls Tryz.prog 146 #[.int .u8 a0] w fun e w' => e = .returned (.bool r) ∧ Drawn0 w w' := by
 unfold lexer_plain.f at h; have H := h
 clear h
 by_cases c2 : a0 ≥ 32
 rotate_left
 · rw [if_neg c2] at H
   have c2b0 : decide (32 ≤ a0) = false := decide_eq_false c2; clear c2
   obtain rfl := Option.some.inj H
   go_enter Tryz.func146, Tryz.ntmps146
   go_wp2
   go_ret
   exact ⟨by first | rfl | (simp; done) | (simp [*]; done), by repeat (first | exact Drawn0.refl _ | apply Drawn0.step)⟩
 rw [if_pos c2] at H
 have c2b0 : decide (32 ≤ a0) = true := decide_eq_true c2; clear c2
 by_cases c3 : a0 ≤ 126
 rotate_left
 · rw [if_neg c3] at H
   have c3b0 : decide (a0 ≤ 126) = false := decide_eq_false c3; clear c3
   obtain rfl := Option.some.inj H
   go_enter Tryz.func146, Tryz.ntmps146
   go_wp2
   go_ret
   exact ⟨by first | rfl | (simp; done) | (simp [*]; done), by repeat (first | exact Drawn0.refl _ | apply Drawn0.step)⟩
 rw [if_pos c3] at H
 have c3b0 : decide (a0 ≤ 126) = true := decide_eq_true c3; clear c3
 by_cases c4 : a0 = 34
 · rw [if_pos c4] at H
   have c4b0 : (a0 == 34) = true := beq_iff_eq.mpr c4; have c4b1 : (a0 != 34) = false := bne_eq_false_iff_eq.mpr c4; clear c4
   obtain rfl := Option.some.inj H
   go_enter Tryz.func146, Tryz.ntmps146
   go_wp2
   go_ret
   exact ⟨by first | rfl | (simp; done) | (simp [*]; done), by repeat (first | exact Drawn0.refl _ | apply Drawn0.step)⟩
 rw [if_neg c4] at H
 have c4b0 : (a0 == 34) = false := beq_eq_false_iff_ne.mpr c4
 have c4b1 : (a0 != 34) = true := bne_iff_ne.mpr c4
 by_cases c5 : a0 = 92
 · rw [if_pos c5] at H
   have c5b0 : (a0 == 92) = true := beq_iff_eq.mpr c5; have c5b1 : (a0 != 92) = false := bne_eq_false_iff_eq.mpr c5; clear c5
   obtain rfl := Option.some.inj H
   go_enter Tryz.func146, Tryz.ntmps146
   go_wp2
   go_ret
   exact ⟨by first | rfl | (simp; done) | (simp [*]; done), by repeat (first | exact Drawn0.refl _ | apply Drawn0.step)⟩
 rw [if_neg c5] at H
 have c5b0 : (a0 == 92) = false := beq_eq_false_iff_ne.mpr c5
 have c5b1 : (a0 != 92) = true := bne_iff_ne.mpr c5
 obtain rfl := Option.some.inj H
 go_enter Tryz.func146, Tryz.ntmps146
 go_wp2
 go_ret
 exact ⟨by first | rfl | (simp; done) | (simp [*]; done), by repeat (first | exact Drawn0.refl _ | apply Drawn0.step)⟩
end Go.Proofs.YtnphnhkinjppjaaGreatDoor.Q
end

section
set_option maxHeartbeats 8000000
set_option maxRecDepth 100000
namespace Go.Proofs.YtnphnhkinjppjaaGreatDoor.Q
open Go.RowKit Go.Proofs.YtnphnhkinjppjaaGreatDoorW.PrintWords Go.Proofs.YtnphnhkinjppjaaGreatDoorW.PrintLast Go.Proofs.YtnphnhkinjppjaaGreatDoorW.PrintMore
attribute [local go_sem] max2_int min2_int max_two min_two max_three min_three max_four min_four
mutual
def lexer_hex.j0 : Nat → Int → Bool → Option (Int)
  | 0, _, _ => none
  | k + 1, x0, x3 => if x3 = true then (some ((x0 - 48) % 256)) else (if x0 ≥ 97 then (lexer_hex.j1 k x0 (decide (x0 ≤ 102))) else (lexer_hex.j1 k x0 false))
def lexer_hex.j1 : Nat → Int → Bool → Option (Int)
  | 0, _, _ => none
  | k + 1, x0, x13 => if x13 = true then (some (((x0 - 97) % 256) + 10)) else (if x0 ≥ 65 then (if x0 ≤ 70 then (some (((x0 - 65) % 256) + 10)) else (some (-1))) else (some (-1)))
end
def lexer_hex.f (k : Nat) (a0 : Int) : Option (Int) := if a0 ≥ 48 then (lexer_hex.j0 k a0 (decide (a0 ≤ 57))) else (lexer_hex.j0 k a0 false)
theorem lexer_hex.mono_l : ∀ k, (∀ y0 y1, LeO (lexer_hex.j0 k y0 y1) (lexer_hex.j0 (k + 1) y0 y1)) ∧ (∀ y0 y1, LeO (lexer_hex.j1 k y0 y1) (lexer_hex.j1 (k + 1) y0 y1))
  | 0 => ⟨fun _ _ r h => by simp [lexer_hex.j0] at h, fun _ _ r h => by simp [lexer_hex.j1] at h⟩
  | k + 1 => by
    obtain ⟨ih0, ih1⟩ := lexer_hex.mono_l k
    refine ⟨?_, ?_⟩
    · intro y0 y1
      unfold lexer_hex.j0
      repeat' first
      | (with_reducible exact ih0 _ _)
      | (with_reducible exact ih1 _ _)
      | (with_reducible exact LeO.refl _)
      | (with_reducible exact LeO.none _)
      | (with_reducible refine LeO.ite ?_ ?_)
      | (with_reducible refine LeO.bind ?_ (fun _ => ?_))
    · intro y0 y1
      unfold lexer_hex.j1
      repeat' first
      | (with_reducible exact ih0 _ _)
      | (with_reducible exact ih1 _ _)
      | (with_reducible exact LeO.refl _)
      | (with_reducible exact LeO.none _)
      | (with_reducible refine LeO.ite ?_ ?_)
      | (with_reducible refine LeO.bind ?_ (fun _ => ?_))
theorem lexer_hex.mono : ∀ a0 k, LeO (lexer_hex.f k a0) (lexer_hex.f (k + 1) a0) := by
  intro a0 k
  obtain ⟨ih0, ih1⟩ := lexer_hex.mono_l k
  unfold lexer_hex.f
  repeat' first
      | (with_reducible exact ih0 _ _)
      | (with_reducible exact ih1 _ _)
      | (with_reducible exact LeO.refl _)
      | (with_reducible exact LeO.none _)
      | (with_reducible refine LeO.ite ?_ ?_)
      | (with_reducible refine LeO.bind ?_ (fun _ => ?_))
theorem lexer_hex.calls (k : Nat) (a0 : Int) (r : Int) (w : World) (h : lexer_hex.f k a0 = some r) :
 Calls Tryz.prog 160 #[.int .u8 a0] w fun e w' => e = .returned (.int .i64 r) ∧ Drawn0 w w' := by
 unfold lexer_hex.f at h; have H := h
 clear h; have HC2 := Aside0.mk H; clear H
 go_enter Tryz.func160, Tryz.ntmps160
 go_upto_region 1 with (fail)
 go_cut [3] (fun v3 wc => ∃ (kq : Nat) (x3_1 : Bool), v3 = .bool x3_1 ∧ Aside0 (lexer_hex.j0 kq a0 x3_1 = some r) ∧ Aside0 (kq ≤ k) ∧ Drawn0 w wc)
 case first =>
  have H := HC2.out
  clear HC2
  by_cases c3 : a0 ≥ 48
  · rw [if_pos c3] at H
    have c3b0 : decide (48 ≤ a0) = true := decide_eq_true c3; clear c3
    (first | rw [c3b0] | (simp only [i64_w, i32_w]; rw [c3b0]) | skip)
    have H' := Aside0.mk H
    clear H
    go_wp2
    go_meet
    case rel => exact ⟨_, (decide (a0 ≤ 57)), zI, H', ⟨by first | omega | exact Nat.le_refl _⟩, by repeat (first | exact Drawn0.refl _ | apply Drawn0.step)⟩
  rw [if_neg c3] at H
  have c3b0 : decide (48 ≤ a0) = false := decide_eq_false c3; clear c3
  (first | rw [c3b0] | (simp only [i64_w, i32_w]; rw [c3b0]) | skip)
  have H' := Aside0.mk H
  clear H
  go_wp2
  go_meet
  case rel => exact ⟨_, (false), zI, H', ⟨by first | omega | exact Nat.le_refl _⟩, by repeat (first | exact Drawn0.refl _ | apply Drawn0.step)⟩
 case rest =>
  clear HC2
  obtain ⟨kq, x3_1, rfl, HA, HJ1, ⟨mc1, rfl⟩⟩ := hcut
  rcases kq with _ | kj1
  · exact absurd HA.out (by simp [lexer_hex.j0])
  have H := HA.out
  clear HA
  simp only [lexer_hex.j0] at H
  by_cases c4 : x3_1 = true
  · subst c4
    rw [if_pos rfl] at H
    obtain rfl := Option.some.inj H
    go_wp2
    go_ret
    exact ⟨by first | rfl | (simp; done) | (simp [*]; done), by repeat (first | exact Drawn0.refl _ | apply Drawn0.step)⟩
  replace c4 := Bool.eq_false_iff.mpr c4
  subst c4; rw [if_neg zF] at H; have HC5 := Aside0.mk H; clear H
  go_upto_region 3 with (fail)
  go_cut [13] (fun v13 wc => ∃ (kq : Nat) (x13_4 : Bool), v13 = .bool x13_4 ∧ Aside0 (lexer_hex.j1 kq a0 x13_4 = some r) ∧ Aside0 (kq ≤ kj1) ∧ Drawn0 w wc)
  case first =>
   have H := HC5.out
   clear HC5
   by_cases c6 : a0 ≥ 97
   · rw [if_pos c6] at H
     have c6b0 : decide (97 ≤ a0) = true := decide_eq_true c6; clear c6
     (first | rw [c6b0] | (simp only [i64_w, i32_w]; rw [c6b0]) | skip)
     have H' := Aside0.mk H
     clear H
     go_wp2
     go_meet
     case rel => exact ⟨_, (decide (a0 ≤ 102)), zI, H', ⟨by have := HJ1.out; first | omega | exact Nat.le_refl _⟩, by repeat (first | exact Drawn0.refl _ | apply Drawn0.step)⟩
   rw [if_neg c6] at H
   have c6b0 : decide (97 ≤ a0) = false := decide_eq_false c6; clear c6
   (first | rw [c6b0] | (simp only [i64_w, i32_w]; rw [c6b0]) | skip)
   have H' := Aside0.mk H
   clear H
   go_wp2
   go_meet
   case rel => exact ⟨_, (false), zI, H', ⟨by have := HJ1.out; first | omega | exact Nat.le_refl _⟩, by repeat (first | exact Drawn0.refl _ | apply Drawn0.step)⟩
  case rest =>
   clear HC5
   try clear c4
   obtain ⟨kq, x13_4, rfl, HA, HJ4, ⟨mc4, rfl⟩⟩ := hcut
   rcases kq with _ | kj4
   · exact absurd HA.out (by simp [lexer_hex.j1])
   have H := HA.out
   clear HA
   simp only [lexer_hex.j1] at H
   by_cases c7 : x13_4 = true
   · subst c7
     rw [if_pos rfl] at H
     obtain rfl := Option.some.inj H
     go_wp2
     go_ret
     exact ⟨by first | rfl | (simp; done) | (simp [*]; done), by repeat (first | exact Drawn0.refl _ | apply Drawn0.step)⟩
   replace c7 := Bool.eq_false_iff.mpr c7
   subst c7; rw [if_neg zF] at H
   by_cases c8 : a0 ≥ 65
   · rw [if_pos c8] at H
     have c8b0 : decide (65 ≤ a0) = true := decide_eq_true c8; clear c8
     by_cases c9 : a0 ≤ 70
     · rw [if_pos c9] at H
       have c9b0 : decide (a0 ≤ 70) = true := decide_eq_true c9; clear c9
       obtain rfl := Option.some.inj H
       go_wp2
       go_ret
       exact ⟨by first | rfl | (simp; done) | (simp [*]; done), by repeat (first | exact Drawn0.refl _ | apply Drawn0.step)⟩
     rw [if_neg c9] at H
     have c9b0 : decide (a0 ≤ 70) = false := decide_eq_false c9; clear c9
     obtain rfl := Option.some.inj H
     go_wp2
     go_ret
     exact ⟨by first | rfl | (simp; done) | (simp [*]; done), by repeat (first | exact Drawn0.refl _ | apply Drawn0.step)⟩
   rw [if_neg c8] at H
   have c8b0 : decide (65 ≤ a0) = false := decide_eq_false c8; clear c8
   obtain rfl := Option.some.inj H
   go_wp2
   go_ret
   exact ⟨by first | rfl | (simp; done) | (simp [*]; done), by repeat (first | exact Drawn0.refl _ | apply Drawn0.step)⟩
end Go.Proofs.YtnphnhkinjppjaaGreatDoor.Q
end

section
set_option maxHeartbeats 8000000
set_option maxRecDepth 100000
namespace Go.Proofs.YtnphnhkinjppjaaGreatDoor.Q
open Go.RowKit Go.Proofs.YtnphnhkinjppjaaGreatDoorW.PrintWords Go.Proofs.YtnphnhkinjppjaaGreatDoorW.PrintLast Go.Proofs.YtnphnhkinjppjaaGreatDoorW.PrintMore
attribute [local go_sem] max2_int min2_int max_two min_two max_three min_three max_four min_four
mutual
def lexer_group.l0 : Nat → ByteArray → Int → List Int → Option (ByteArray × Int × Bool)
  | 0, _, _, _ => none
  | k + 1, x0, x1, x7 => lexer_group.l1 k x0 x1 x7 0
def lexer_group.l1 : Nat → ByteArray → Int → List Int → Int → Option (ByteArray × Int × Bool)
  | 0, _, _, _, _ => none
  | k + 1, x0, x1, x7, x9 => if x9 < 2 then (if (wrap64 (x1 + x9)) ≥ (x0.size : Int) then (some ((⟨#[]⟩ : ByteArray), mn (wrap64 (x1 + x9)) (x0.size : Int), false)) else (if 0 ≤ (wrap64 (x1 + x9)) then (if (wrap64 (x1 + x9)) < (x0.size : Int) then ((lexer_hex.f k (bt x0 (wrap64 (x1 + x9)))).bind fun t154 => (if t154 < 0 then (some ((⟨#[]⟩ : ByteArray), mn (wrap64 (x1 + x9)) (x0.size : Int), false)) else (lexer_group.l1 k x0 x1 x7 (wrap64 (x9 + 1))))) else (none)) else (none))) else (if 0 ≤ x1 then (if x1 < (x0.size : Int) then ((lexer_hex.f k (bt x0 x1)).bind fun t155 => (if 0 ≤ (wrap64 (x1 + 1)) then (if (wrap64 (x1 + 1)) < (x0.size : Int) then ((lexer_hex.f k (bt x0 (wrap64 (x1 + 1)))).bind fun t156 => (if x7.length < 140737488355328 then ((some (x7 ++ [(Go.bits .or .i64 (wrap64 (t155 * 16)) t156) % 256] : List Int)).bind fun y157 => (if (wrap64 (x1 + 2)) < (x0.size : Int) then (if 0 ≤ (wrap64 (x1 + 2)) then (lexer_group.j2 k x0 (wrap64 (x1 + 2)) y157 ((bt x0 (wrap64 (x1 + 2))) == 124)) else (none)) else (lexer_group.j2 k x0 (wrap64 (x1 + 2)) y157 false))) else (none))) else (none)) else (none))) else (none)) else (none))
def lexer_group.j2 : Nat → ByteArray → Int → List Int → Bool → Option (ByteArray × Int × Bool)
  | 0, _, _, _, _ => none
  | k + 1, x0, x1, x7, x51 => if x51 = true then (some (strOfNums x7, wrap64 (x1 + 1), true)) else (if x1 ≥ (x0.size : Int) then (some ((⟨#[]⟩ : ByteArray), x1, false)) else (if 0 ≤ x1 then (if x1 < (x0.size : Int) then (if (bt x0 x1) = 32 then (lexer_group.l0 k x0 (wrap64 (x1 + 1)) x7) else (some ((⟨#[]⟩ : ByteArray), x1, false))) else (none)) else (none)))
end
def lexer_group.f (k : Nat) (a0 : ByteArray) (a1 : Int) : Option (ByteArray × Int × Bool) := lexer_group.l0 k a0 a1 ([] : List Int)
theorem lexer_group.mono_l : ∀ k, (∀ y0 y1 y2, LeO (lexer_group.l0 k y0 y1 y2) (lexer_group.l0 (k + 1) y0 y1 y2)) ∧ (∀ y0 y1 y2 y3, LeO (lexer_group.l1 k y0 y1 y2 y3) (lexer_group.l1 (k + 1) y0 y1 y2 y3)) ∧ (∀ y0 y1 y2 y3, LeO (lexer_group.j2 k y0 y1 y2 y3) (lexer_group.j2 (k + 1) y0 y1 y2 y3))
  | 0 => ⟨fun _ _ _ r h => by simp [lexer_group.l0] at h, fun _ _ _ _ r h => by simp [lexer_group.l1] at h, fun _ _ _ _ r h => by simp [lexer_group.j2] at h⟩
  | k + 1 => by
    obtain ⟨ih0, ih1, ih2⟩ := lexer_group.mono_l k
    refine ⟨?_, ?_, ?_⟩
    · intro y0 y1 y2
      unfold lexer_group.l0
      repeat' first
      | (with_reducible exact ih0 _ _ _)
      | (with_reducible exact ih1 _ _ _ _)
      | (with_reducible exact ih2 _ _ _ _)
      | (with_reducible exact lexer_hex.mono _ _)
      | (with_reducible exact LeO.refl _)
      | (with_reducible exact LeO.none _)
      | (with_reducible refine LeO.ite ?_ ?_)
      | (with_reducible refine LeO.bind ?_ (fun _ => ?_))
    · intro y0 y1 y2 y3
      unfold lexer_group.l1
      repeat' first
      | (with_reducible exact ih0 _ _ _)
      | (with_reducible exact ih1 _ _ _ _)
      | (with_reducible exact ih2 _ _ _ _)
      | (with_reducible exact lexer_hex.mono _ _)
      | (with_reducible exact LeO.refl _)
      | (with_reducible exact LeO.none _)
      | (with_reducible refine LeO.ite ?_ ?_)
      | (with_reducible refine LeO.bind ?_ (fun _ => ?_))
    · intro y0 y1 y2 y3
      unfold lexer_group.j2
      repeat' first
      | (with_reducible exact ih0 _ _ _)
      | (with_reducible exact ih1 _ _ _ _)
      | (with_reducible exact ih2 _ _ _ _)
      | (with_reducible exact lexer_hex.mono _ _)
      | (with_reducible exact LeO.refl _)
      | (with_reducible exact LeO.none _)
      | (with_reducible refine LeO.ite ?_ ?_)
      | (with_reducible refine LeO.bind ?_ (fun _ => ?_))
theorem lexer_group.mono : ∀ a0 a1 k, LeO (lexer_group.f k a0 a1) (lexer_group.f (k + 1) a0 a1) := by
  intro a0 a1 k
  obtain ⟨ih0, ih1, ih2⟩ := lexer_group.mono_l k
  unfold lexer_group.f
  repeat' first
      | (with_reducible exact ih0 _ _ _)
      | (with_reducible exact ih1 _ _ _ _)
      | (with_reducible exact ih2 _ _ _ _)
      | (with_reducible exact lexer_hex.mono _ _)
      | (with_reducible exact LeO.refl _)
      | (with_reducible exact LeO.none _)
      | (with_reducible refine LeO.ite ?_ ?_)
      | (with_reducible refine LeO.bind ?_ (fun _ => ?_))
def lexer_group.T8 : Bool × List (List Nat × List Nat) := (true, [([], []), ([], []), ([], []), ([1, 2], [1, 2]), ([3], [3]), ([4], [4]), ([], []), ([], []), ([7], [7]), ([6, 8], [6, 8]), ([9, 4], [9]), ([5, 10], [5, 10]), ([11], [11]), ([12], [12]), ([0, 13, 10], [0, 13]), ([14, 14, 0, 1, 2, 3, 4, 5, 6, 7, 8, 9, 10, 11, 12, 13, 14], [0, 14])])
def lexer_group.B8 : List Nat := [0, 0, 0, 6, 14, 30, 0, 0, 128, 448, 990, 2046, 4094, 8190, 16383, 32767]
theorem lexer_group.tab8 : rtab .any (opsOf Tryz.f148 8) = lexer_group.T8 := by kernel_rfl
theorem lexer_group.bits8 : waitsOk lexer_group.T8.2 lexer_group.B8 = true := by kernel_rfl
theorem lexer_group.calls (k : Nat) (a0 : ByteArray) (a1 : Int) (r1 : ByteArray) (r2 : Int) (r3 : Bool) (w : World) (h : lexer_group.f k a0 a1 = some (r1, r2, r3)) :
 Calls Tryz.prog 148 #[.string a0, .int .i64 a1] w fun e w' => e = .returned (.tuple #[.string r1, .int .i64 r2, .bool r3]) ∧ Below w.heap.size w w' := by
 have HB := Aside0.mk (Below.refl w.heap.size w)
 unfold lexer_group.f at h; have H := h
 clear h
 have H' := Aside0.mk H
 clear H
 go_enter Tryz.func148, Tryz.ntmps148
 go_wp2
 go_loopg [1, 7] k (fun kq v1 v7 w' => ∃ (x1_1 : Int) (x7_1 : List Int), v1 = .int .i64 x1_1 ∧ Aside0 (lexer_group.l0 kq a0 x1_1 x7_1 = some (r1, r2, r3)) ∧ Aside0 (kq ≤ k) ∧ Aside0 (Kd.R (Kd.int .u8) 5 w' w.heap.size (fun _ => True) v7 x7_1) ∧ Aside0 (Below w.heap.size w w'))
 case atStart => exact ⟨(a1), (([] : List Int)), zI, H', ⟨Nat.le_refl _⟩, ⟨by first | exact Kd.R_nil _ _ _ _ _ | exact Kd.N_nil _ _ _ _ _ | exact Kd.V_nil _ _ _ _ _ | exact Kd.Q_nil _ _ _ _ _ | exact Kd.S_nil _ _ _ _ _⟩, ⟨zB HB⟩⟩
 case round =>
  clear H'
  obtain ⟨x1_1, x7_1, rfl, HA, HK1, HO_7, HB⟩ := hrel
  rcases gk with _ | k1
  · exact absurd HA.out (by simp [lexer_group.l0])
  have H := HA.out
  clear HA
  simp only [lexer_group.l0] at H
  have H' := Aside0.mk H
  clear H
  go_wp2
  go_loopg [9] k1 (fun kq v9 w' => ∃ (x9_2 : Int), v9 = .int .i64 x9_2 ∧ Aside0 (lexer_group.l1 kq a0 x1_1 x7_1 x9_2 = some (r1, r2, r3)) ∧ Aside0 (kq ≤ k1) ∧ Aside0 (Kd.R (Kd.int .u8) 5 w' w.heap.size (fun _ => True) u7 x7_1) ∧ Aside0 (Below w.heap.size w w'))
  case atStart => exact ⟨(0), zI, H', ⟨Nat.le_refl _⟩, ⟨zR HO_7⟩, ⟨zB HB⟩⟩
  case round =>
   clear H'
   obtain ⟨x9_2, rfl, HA, HK2, HO_7, HB⟩ := hrel
   rcases gk with _ | k2
   · exact absurd HA.out (by simp [lexer_group.l1])
   have H := HA.out
   clear HA
   simp only [lexer_group.l1] at H
   by_cases c3 : x9_2 < 2
   · rw [if_pos c3] at H
     have c3b0 : decide (x9_2 < 2) = true := decide_eq_true c3; clear c3
     by_cases c4 : (wrap64 (x1_1 + x9_2)) ≥ (a0.size : Int)
     · rw [if_pos c4] at H
       have c4b0 : decide ((a0.size : Int) ≤ (wrap64 (x1_1 + x9_2))) = true := decide_eq_true c4; clear c4
       obtain ⟨ji5, hji5⟩ : ∃ j_ : Int, (mn (wrap64 (x1_1 + x9_2)) (a0.size : Int)) = j_ := ⟨_, rfl⟩
       replace H : (some ((⟨#[]⟩ : ByteArray), ji5, false)) = some (r1, r2, r3) := by first | (rw [hji5] at H; exact H) | (simp only [hji5] at H ⊢; exact H)
       have hji5_ : (if (a0.size : Int) < (wrap64 (x1_1 + x9_2)) then (a0.size : Int) else (wrap64 (x1_1 + x9_2))) = ji5 := hji5
       simp only [Option.some.injEq, Prod.mk.injEq] at H
       obtain ⟨rfl, rfl, rfl⟩ := H
       go_wp2
       go_ret3
       exact ⟨by first | rfl | (simp [errW_none, errW_some] <;> rfl) | (simp only [← hji5]; first | rfl | (simp [errW_none, errW_some] <;> rfl)) | (simp [*, errW_none, errW_some] <;> rfl), by repeat (first | (with_reducible first | exact HB.out | apply below_alloc | apply pw_below_drewN | apply below_drew1) | exact HB.out)⟩
     rw [if_neg c4] at H
     have c4b0 : decide ((a0.size : Int) ≤ (wrap64 (x1_1 + x9_2))) = false := decide_eq_false c4; clear c4
     obtain ⟨ji6, hji6⟩ : ∃ j_ : Int, (wrap64 (x1_1 + x9_2)) = j_ := ⟨_, rfl⟩
     replace H : (if 0 ≤ (ji6) then (if (ji6) < (a0.size : Int) then ((lexer_hex.f k2 (bt a0 (ji6))).bind fun t154 => (if t154 < 0 then (some ((⟨#[]⟩ : ByteArray), mn (ji6) (a0.size : Int), false)) else (lexer_group.l1 k2 a0 x1_1 x7_1 (wrap64 (x9_2 + 1))))) else (none)) else (none)) = some (r1, r2, r3) := by first | (rw [hji6] at H; exact H) | (simp only [hji6] at H ⊢; exact H)
     (try rw [hji6] at c4b0)
     have hji6w : (IntKind.i64.wrap (x1_1 + x9_2)) = ji6 := (i64_w _).trans hji6
     by_cases c7 : 0 ≤ (ji6)
     rotate_left
     · rw [if_neg c7] at H
       exact absurd H (by simp)
     rw [if_pos c7] at H
     have c7b0 : decide (0 ≤ (ji6)) = true := decide_eq_true c7; clear c7
     by_cases c8 : (ji6) < (a0.size : Int)
     rotate_left
     · rw [if_neg c8] at H
       exact absurd H (by simp)
     rw [if_pos c8] at H
     have c8b0 : decide ((ji6) < (a0.size : Int)) = true := decide_eq_true c8; clear c8
     replace H := Option.bind_eq_some_iff.mp H
     obtain ⟨t154, A100, H⟩ := H
     replace H : (if t154 < 0 then (some ((⟨#[]⟩ : ByteArray), mn (ji6) (a0.size : Int), false)) else (lexer_group.l1 k2 a0 x1_1 x7_1 (wrap64 (x9_2 + 1)))) = some (r1, r2, r3) := H
     have A10 := Aside0.mk A100; clear A100
     by_cases c11 : t154 < 0
     · rw [if_pos c11] at H
       have c11b0 : decide (t154 < 0) = true := decide_eq_true c11; clear c11
       obtain ⟨ji12, hji12⟩ : ∃ j_ : Int, (mn (ji6) (a0.size : Int)) = j_ := ⟨_, rfl⟩
       replace H : (some ((⟨#[]⟩ : ByteArray), ji12, false)) = some (r1, r2, r3) := by first | (rw [hji12] at H; exact H) | (simp only [hji12] at H ⊢; exact H)
       (try rw [hji12] at A10)
       have hji12_ : (if (a0.size : Int) < (ji6) then (a0.size : Int) else (ji6)) = ji12 := hji12
       simp only [Option.some.injEq, Prod.mk.injEq] at H
       obtain ⟨rfl, rfl, rfl⟩ := H
       have p9 : 0 ≤ ((ji6) : Int) := za
       have q9 : (ji6) < (a0.size : Int) := za
       have hx9 := bt_at a0 (ji6)
       replace p9 := eq_true p9
       replace q9 := eq_true q9
       go_wp2_with (first | (go_at_call 160; (with_reducible refine (lexer_hex.calls k2 (bt a0 (ji6)) t154 _ A10.out).mono ?_); rintro e w' ⟨rfl, ⟨nd, rfl⟩⟩))
       go_ret3
       exact ⟨by first | rfl | (simp [errW_none, errW_some] <;> rfl) | (simp only [← hji6, ← hji12]; first | rfl | (simp [errW_none, errW_some] <;> rfl)) | (simp [*, errW_none, errW_some] <;> rfl), by repeat (first | (with_reducible first | exact HB.out | apply below_alloc | apply pw_below_drewN | apply below_drew1) | exact HB.out)⟩
     rw [if_neg c11] at H
     have c11b0 : decide (t154 < 0) = false := decide_eq_false c11; clear c11
     have H' := Aside0.mk H
     clear H
     have p9 : 0 ≤ ((ji6) : Int) := za
     have q9 : (ji6) < (a0.size : Int) := za
     have hx9 := bt_at a0 (ji6)
     replace p9 := eq_true p9
     replace q9 := eq_true q9
     go_wp2_with (first | (go_at_call 160; (with_reducible refine (lexer_hex.calls k2 (bt a0 (ji6)) t154 _ A10.out).mono ?_); rintro e w' ⟨rfl, ⟨nd, rfl⟩⟩))
     go_roundg k2
     case measure => have := HK1.out; have := HK2.out; omega
     case rel => exact ⟨(wrap64 (x9_2 + 1)), zI, H', ⟨by have := HK1.out; have := HK2.out; omega⟩, ⟨zR HO_7⟩, ⟨zB HB⟩⟩
   rw [if_neg c3] at H
   have c3b0 : decide (x9_2 < 2) = false := decide_eq_false c3; clear c3
   by_cases c13 : 0 ≤ x1_1
   rotate_left
   · rw [if_neg c13] at H
     exact absurd H (by simp)
   rw [if_pos c13] at H
   have c13b0 : decide (0 ≤ x1_1) = true := decide_eq_true c13; clear c13
   by_cases c14 : x1_1 < (a0.size : Int)
   rotate_left
   · rw [if_neg c14] at H
     exact absurd H (by simp)
   rw [if_pos c14] at H
   have c14b0 : decide (x1_1 < (a0.size : Int)) = true := decide_eq_true c14; clear c14
   replace H := Option.bind_eq_some_iff.mp H
   obtain ⟨t155, A160, H⟩ := H
   replace H : (if 0 ≤ (wrap64 (x1_1 + 1)) then (if (wrap64 (x1_1 + 1)) < (a0.size : Int) then ((lexer_hex.f k2 (bt a0 (wrap64 (x1_1 + 1)))).bind fun t156 => (if x7_1.length < 140737488355328 then ((some (x7_1 ++ [(Go.bits .or .i64 (wrap64 (t155 * 16)) t156) % 256] : List Int)).bind fun y157 => (if (wrap64 (x1_1 + 2)) < (a0.size : Int) then (if 0 ≤ (wrap64 (x1_1 + 2)) then (lexer_group.j2 k2 a0 (wrap64 (x1_1 + 2)) y157 ((bt a0 (wrap64 (x1_1 + 2))) == 124)) else (none)) else (lexer_group.j2 k2 a0 (wrap64 (x1_1 + 2)) y157 false))) else (none))) else (none)) else (none)) = some (r1, r2, r3) := H
   have A16 := Aside0.mk A160; clear A160
   obtain ⟨ji17, hji17⟩ : ∃ j_ : Int, (wrap64 (x1_1 + 1)) = j_ := ⟨_, rfl⟩
   replace H : (if 0 ≤ (ji17) then (if (ji17) < (a0.size : Int) then ((lexer_hex.f k2 (bt a0 (ji17))).bind fun t156 => (if x7_1.length < 140737488355328 then ((some (x7_1 ++ [(Go.bits .or .i64 (wrap64 (t155 * 16)) t156) % 256] : List Int)).bind fun y157 => (if (wrap64 (x1_1 + 2)) < (a0.size : Int) then (if 0 ≤ (wrap64 (x1_1 + 2)) then (lexer_group.j2 k2 a0 (wrap64 (x1_1 + 2)) y157 ((bt a0 (wrap64 (x1_1 + 2))) == 124)) else (none)) else (lexer_group.j2 k2 a0 (wrap64 (x1_1 + 2)) y157 false))) else (none))) else (none)) else (none)) = some (r1, r2, r3) := by first | (rw [hji17] at H; exact H) | (simp only [hji17] at H ⊢; exact H)
   (try rw [hji17] at A16)
   have hji17w : (IntKind.i64.wrap (x1_1 + 1)) = ji17 := (i64_w _).trans hji17
   by_cases c18 : 0 ≤ (ji17)
   rotate_left
   · rw [if_neg c18] at H
     exact absurd H (by simp)
   rw [if_pos c18] at H
   have c18b0 : decide (0 ≤ (ji17)) = true := decide_eq_true c18; clear c18
   by_cases c19 : (ji17) < (a0.size : Int)
   rotate_left
   · rw [if_neg c19] at H
     exact absurd H (by simp)
   rw [if_pos c19] at H
   have c19b0 : decide ((ji17) < (a0.size : Int)) = true := decide_eq_true c19; clear c19
   replace H := Option.bind_eq_some_iff.mp H
   obtain ⟨t156, A210, H⟩ := H
   replace H : (if x7_1.length < 140737488355328 then ((some (x7_1 ++ [(Go.bits .or .i64 (wrap64 (t155 * 16)) t156) % 256] : List Int)).bind fun y157 => (if (wrap64 (x1_1 + 2)) < (a0.size : Int) then (if 0 ≤ (wrap64 (x1_1 + 2)) then (lexer_group.j2 k2 a0 (wrap64 (x1_1 + 2)) y157 ((bt a0 (wrap64 (x1_1 + 2))) == 124)) else (none)) else (lexer_group.j2 k2 a0 (wrap64 (x1_1 + 2)) y157 false))) else (none)) = some (r1, r2, r3) := H
   have A21 := Aside0.mk A210; clear A210
   by_cases c22 : x7_1.length < 140737488355328
   rotate_left
   · rw [if_neg c22] at H
     exact absurd H (by simp)
   rw [if_pos c22] at H; have LMc22 := Aside0.mk c22; clear c22
   obtain ⟨y157, hy157⟩ : ∃ y_ : List Int, y_ = (x7_1 ++ [(Go.bits .or .i64 (wrap64 (t155 * 16)) t156) % 256]) := ⟨_, rfl⟩
   rw [← hy157] at H; try dsimp only [Option.bind_some] at H
   have Ny157 := Aside0.mk hy157; clear hy157; have HC23 := Aside0.mk H; clear H
   try go_wp2
   replace HO_7 := Aside0.mk (Kd.R_drew HO_7.out); replace HB := Aside0.mk (below_drew1 HB.out)
   have p15 : 0 ≤ (x1_1 : Int) := za
   have q15 : x1_1 < (a0.size : Int) := za
   have hx15 := bt_at a0 x1_1
   replace p15 := eq_true p15
   replace q15 := eq_true q15
   have p20 : 0 ≤ ((ji17) : Int) := za
   have q20 : (ji17) < (a0.size : Int) := za
   have hx20 := bt_at a0 (ji17)
   replace p20 := eq_true p20
   replace q20 := eq_true q20
   refine start_ (n := 16) (S := fun w' => True) (ds := []) #[false, false, false, false, false, false, false, false, false, false, false, false, false, false, false, false] (by kernel_rfl) rfl rfl trivial (fun hHeld => ?_); refine with_tabW lexer_group.tab8 lexer_group.bits8 (fun HT_ HW_ => ?_)
   generalize wr.drew = w24 at HO_7 HB hHeld ⊢
   refine zp 0 34 HT_ ?_; refine zp 1 35 HT_ ?_; refine zp 2 36 HT_ ?_; refine zp 6 40 HT_ ?_; refine zp 7 41 HT_ ?_; refine zp 8 42 HT_ ?_
   refine take_ (i := 3) (N := some 37) (v := ?_) (a' := ?_) #[true, true, true, true, false, false, true, true, true, false, false, false, false, false, false, false] rfl rfl (take_ofW HT_.out HW_.out (by kernel_rfl)) (fun _ _ _ h => h) (Or.inl ⟨by rfl, ?_⟩) hHeld ?_ ?_
   rotate_left
   · intro w' _
     go_simp
     with_reducible rfl
   rotate_left
   · simp only [Act.put, List.setIfInBounds_toArray, List.set_cons_zero, List.set_cons_succ, i64_w, i32_w]
     rfl
   refine take_ (i := 9) (N := some 43) (v := ?_) (a' := ?_) #[true, true, true, true, false, false, true, true, true, true, false, false, false, false, false, false] rfl rfl (take_ofW HT_.out HW_.out (by kernel_rfl)) (fun _ _ _ h => h) (Or.inl ⟨by rfl, ?_⟩) hHeld ?_ ?_
   rotate_left
   · intro w' _
     go_simp
     with_reducible rfl
   rotate_left
   · simp only [Act.put, List.setIfInBounds_toArray, List.set_cons_zero, List.set_cons_succ, i64_w, i32_w]
     rfl
   refine zo 4 38 HT_ (fun K hK => ?_)
   refine zg Tryz.func160 #[.int .u8 (bt a0 x1_1)] ?_
   with_reducible refine (lexer_hex.calls k2 (bt a0 x1_1) t155 _ A16.out).mono ?_
   rintro e w' ⟨rfl, ⟨nd, rfl⟩⟩
   refine ⟨_, rfl, ?_⟩
   refine hK.out _ _ trivial (fun hHeld => ?_)
   clear hK K
   refine zn 38 ?_; refine zp 5 39 HT_ ?_; refine zo 10 44 HT_ (fun K hK => ?_)
   refine goes_ Tryz.func160 (by kernel_rfl) rfl #[.int .u8 (bt a0 (ji17))] (by rfl) rfl rfl (by (try simp only [List.map_toArray, List.map_cons, List.map_nil]); first | done | (simp only [hji17]; rfl) | rfl | (simp only [List.length_drop, List.length_take]; rfl)) ?_
   with_reducible refine (lexer_hex.calls k2 (bt a0 (ji17)) t156 _ A21.out).mono ?_
   rintro e w' ⟨rfl, ⟨nd, rfl⟩⟩
   refine ⟨_, rfl, ?_⟩
   refine hK.out _ _ trivial (fun hHeld => ?_)
   clear hK K
   refine zn 44 ?_; refine zp 11 45 HT_ ?_; refine zp 12 46 HT_ ?_; refine zo 13 47 HT_ (fun K hK => ?_)
   refine value_ (w1 := ?_) (v := ?_) (by rfl) rfl ?_ ?_
   rotate_left 2
   · go_simp
     constructor
     · rfl
     rfl
   refine hK.out _ _ trivial (fun hHeld => ?_)
   clear hK K
   refine zn 47 ?_; refine zo 14 48 HT_ (fun K hK => ?_)
   refine Kd.R_append_step (Kd.int .u8) (w0 := w) w.heap.size (by rfl) (.tmp 34) (.tmp 47) 60 5 (.int .u8 0) 1 rfl Tryz.underlying60 info5 rfl (by decide) (by omega) u7 x7_1 ((Go.bits .or .i64 (wrap64 (t155 * 16)) t156) % 256) [.int .u8 ((Go.bits .or .i64 (wrap64 (t155 * 16)) t156) % 256)] (fun _ => True) (fun _ => False) rfl rfl ?aP (fun _ hk => hk.elim) ?aF ?aO ?aB ?aS ?aL ?_
   (case aP => exact rfl)
   (case aB => exact (zB HB))
   (case aF => exact (fun _ _ => trivial))
   (case aO => exact (zR HO_7))
   (case aS => exact (below_size (zB HB)))
   (case aL => have := LMc22.out; omega)
   intro v158 w25 ho hb hg hat
   rw [← Ny157.out] at ho
   replace HB := Aside0.mk (hb); have HO159 := Aside0.mk (ho); clear HO_7; clear ho hb hg hat
   refine hK.out _ _ trivial (fun hHeld => ?_)
   clear hK K
   refine zn 48 ?_; refine zp 15 7 HT_ ?_; refine zd HT_ ?_
   go_upto_region 10 with (fail)
   go_cut [51] (fun v51 wc => ∃ (kq : Nat) (x51_22 : Bool), v51 = .bool x51_22 ∧ Aside0 (lexer_group.j2 kq a0 (wrap64 (x1_1 + 2)) y157 x51_22 = some (r1, r2, r3)) ∧ Aside0 (kq ≤ k2) ∧ Aside0 (Kd.R (Kd.int .u8) 5 wc w.heap.size (fun _ => True) v158 y157) ∧ Aside0 (Below w.heap.size w wc))
   case first =>
    have H := HC23.out
    clear HC23
    by_cases c26 : (wrap64 (x1_1 + 2)) < (a0.size : Int)
    · rw [if_pos c26] at H
      have c26b0 : decide ((wrap64 (x1_1 + 2)) < (a0.size : Int)) = true := decide_eq_true c26; clear c26
      (first | rw [c26b0] | (simp only [i64_w, i32_w]; rw [c26b0]) | skip)
      obtain ⟨ji27, hji27⟩ : ∃ j_ : Int, (wrap64 (x1_1 + 2)) = j_ := ⟨_, rfl⟩
      replace H : (if 0 ≤ (ji27) then (lexer_group.j2 k2 a0 ji27 y157 ((bt a0 (ji27)) == 124)) else (none)) = some (r1, r2, r3) := by first | (rw [hji27] at H; exact H) | (simp only [hji27] at H ⊢; exact H)
      (try rw [hji27] at c26b0)
      have hji27w : (IntKind.i64.wrap (x1_1 + 2)) = ji27 := (i64_w _).trans hji27
      by_cases c28 : 0 ≤ (ji27)
      · rw [if_pos c28] at H
        have c28b0 : decide (0 ≤ (ji27)) = true := decide_eq_true c28; clear c28
        have H' := Aside0.mk H
        clear H
        have p29 : 0 ≤ ((ji27) : Int) := za
        have q29 : (ji27) < (a0.size : Int) := za
        have hx29 := bt_at a0 (ji27)
        replace p29 := eq_true p29
        replace q29 := eq_true q29
        go_wp2
        go_meet
        case rel => exact ⟨_, (((bt a0 (ji27)) == 124)), (by first | rfl | (simp; done) | (simp only [← hji27] <;> (first | rfl | simp)) | (simp [*]; done)), (by first | exact H' | (rw [hji27]; exact H') | (rw [← hji27]; exact H') | (simp only [hji27] at H' ⊢; exact H') | (simp only [← hji27] at H' ⊢; exact H')), ⟨by have := HK1.out; have := HK2.out; first | omega | exact Nat.le_refl _⟩, ⟨zR HO159⟩, ⟨zB HB⟩⟩
      rw [if_neg c28] at H
      exact absurd H (by simp)
    rw [if_neg c26] at H
    have c26b0 : decide ((wrap64 (x1_1 + 2)) < (a0.size : Int)) = false := decide_eq_false c26; clear c26
    (first | rw [c26b0] | (simp only [i64_w, i32_w]; rw [c26b0]) | skip)
    have H' := Aside0.mk H
    clear H
    go_wp2
    go_meet
    case rel => exact ⟨_, (false), zI, (by first | exact H' | (rw [hji17]; exact H') | (rw [← hji17]; exact H') | (simp only [hji17] at H' ⊢; exact H') | (simp only [← hji17] at H' ⊢; exact H')), ⟨by have := HK1.out; have := HK2.out; first | omega | exact Nat.le_refl _⟩, ⟨zR HO159⟩, ⟨zB HB⟩⟩
   case rest =>
    clear HC23
    (try clear c3); (try clear c3b0); (try clear c13); (try clear c13b0); (try clear c14); (try clear c14b0); (try clear p15); (try clear q15); (try clear hx15); (try clear c18); (try clear c18b0); (try clear c19); (try clear c19b0); (try clear p20); (try clear q20); (try clear hx20); (try clear c22)
    obtain ⟨kq, x51_22, rfl, HA, HJ22, HO_7, HB⟩ := hcut
    rcases kq with _ | kj22
    · exact absurd HA.out (by simp [lexer_group.j2])
    have H := HA.out
    clear HA
    simp only [lexer_group.j2] at H
    by_cases c30 : x51_22 = true
    · subst c30
      rw [if_pos rfl] at H
      simp only [Option.some.injEq, Prod.mk.injEq] at H
      obtain ⟨rfl, rfl, rfl⟩ := H
      have hcv31 := own_string (P := Tryz.prog) Tryz.underlying60 Tryz.underlying5 Tryz.underlying9 (Kd.own_of_R HO_7.out)
      go_wp2
      go_ret3
      exact ⟨by first | rfl | (simp [errW_none, errW_some] <;> rfl) | (simp only [← hji17]; first | rfl | (simp [errW_none, errW_some] <;> rfl)) | (simp [*, errW_none, errW_some] <;> rfl), by repeat (first | (with_reducible first | exact HB.out | apply below_alloc | apply pw_below_drewN | apply below_drew1) | exact HB.out)⟩
    replace c30 := Bool.eq_false_iff.mpr c30
    subst c30; rw [if_neg zF] at H
    by_cases c32 : (wrap64 (x1_1 + 2)) ≥ (a0.size : Int)
    · rw [if_pos c32] at H
      have c32b0 : decide ((a0.size : Int) ≤ (wrap64 (x1_1 + 2))) = true := decide_eq_true c32; clear c32
      simp only [Option.some.injEq, Prod.mk.injEq] at H
      obtain ⟨rfl, rfl, rfl⟩ := H
      go_wp2
      go_ret3
      exact ⟨by first | rfl | (simp [errW_none, errW_some] <;> rfl) | (simp only [← hji17]; first | rfl | (simp [errW_none, errW_some] <;> rfl)) | (simp [*, errW_none, errW_some] <;> rfl), by repeat (first | (with_reducible first | exact HB.out | apply below_alloc | apply pw_below_drewN | apply below_drew1) | exact HB.out)⟩
    rw [if_neg c32] at H
    have c32b0 : decide ((a0.size : Int) ≤ (wrap64 (x1_1 + 2))) = false := decide_eq_false c32; clear c32
    obtain ⟨ji33, hji33⟩ : ∃ j_ : Int, (wrap64 (x1_1 + 2)) = j_ := ⟨_, rfl⟩
    replace H : (if 0 ≤ (ji33) then (if (ji33) < (a0.size : Int) then (if (bt a0 (ji33)) = 32 then (lexer_group.l0 kj22 a0 (wrap64 ((ji33) + 1)) y157) else (some ((⟨#[]⟩ : ByteArray), (ji33), false))) else (none)) else (none)) = some (r1, r2, r3) := by first | (rw [hji33] at H; exact H) | (simp only [hji33] at H ⊢; exact H)
    (try rw [hji33] at c32b0)
    have hji33w : (IntKind.i64.wrap (x1_1 + 2)) = ji33 := (i64_w _).trans hji33
    by_cases c34 : 0 ≤ (ji33)
    rotate_left
    · rw [if_neg c34] at H
      exact absurd H (by simp)
    rw [if_pos c34] at H
    have c34b0 : decide (0 ≤ (ji33)) = true := decide_eq_true c34; clear c34
    by_cases c35 : (ji33) < (a0.size : Int)
    rotate_left
    · rw [if_neg c35] at H
      exact absurd H (by simp)
    rw [if_pos c35] at H
    have c35b0 : decide ((ji33) < (a0.size : Int)) = true := decide_eq_true c35; clear c35
    by_cases c37 : (bt a0 (ji33)) = 32
    · rw [if_pos c37] at H
      have c37b0 : ((bt a0 (ji33)) == 32) = true := beq_iff_eq.mpr c37; have c37b1 : ((bt a0 (ji33)) != 32) = false := bne_eq_false_iff_eq.mpr c37; clear c37
      have H' := Aside0.mk H
      clear H
      have p36 : 0 ≤ ((ji33) : Int) := za
      have q36 : (ji33) < (a0.size : Int) := za
      have hx36 := bt_at a0 (ji33)
      replace p36 := eq_true p36
      replace q36 := eq_true q36
      go_wp2
      go_roundg kj22
      case measure => have := HK1.out; have := HK2.out; have := HJ22.out; omega
      case rel => exact ⟨(wrap64 ((ji33) + 1)), (y157), (by first | rfl | (simp; done) | (simp only [← hji33] <;> (first | rfl | simp)) | (simp [*]; done)), (by first | exact H' | (rw [hji33]; exact H') | (rw [← hji33]; exact H') | (simp only [hji33] at H' ⊢; exact H') | (simp only [← hji33] at H' ⊢; exact H')), ⟨by have := HK1.out; have := HK2.out; have := HJ22.out; omega⟩, ⟨zR HO_7⟩, ⟨zB HB⟩⟩
    rw [if_neg c37] at H
    have c37b0 : ((bt a0 (ji33)) == 32) = false := beq_eq_false_iff_ne.mpr c37
    have c37b1 : ((bt a0 (ji33)) != 32) = true := bne_iff_ne.mpr c37
    simp only [Option.some.injEq, Prod.mk.injEq] at H
    obtain ⟨rfl, rfl, rfl⟩ := H
    have p36 : 0 ≤ ((ji33) : Int) := za
    have q36 : (ji33) < (a0.size : Int) := za
    have hx36 := bt_at a0 (ji33)
    replace p36 := eq_true p36
    replace q36 := eq_true q36
    go_wp2
    go_ret3
    exact ⟨by first | rfl | (simp [errW_none, errW_some] <;> rfl) | (simp only [← hji17, ← hji33]; first | rfl | (simp [errW_none, errW_some] <;> rfl)) | (simp [*, errW_none, errW_some] <;> rfl), by repeat (first | (with_reducible first | exact HB.out | apply below_alloc | apply pw_below_drewN | apply below_drew1) | exact HB.out)⟩
end Go.Proofs.YtnphnhkinjppjaaGreatDoor.Q
end

section
set_option maxHeartbeats 8000000
set_option maxRecDepth 100000
namespace Go.Proofs.YtnphnhkinjppjaaGreatDoor.Q
open Go.RowKit Go.Proofs.YtnphnhkinjppjaaGreatDoorW.PrintWords Go.Proofs.YtnphnhkinjppjaaGreatDoorW.PrintLast Go.Proofs.YtnphnhkinjppjaaGreatDoorW.PrintMore
def byt (x : Int) : UInt8 := UInt8.ofNat x.toNat
def plainB (x : Int) : Bool := decide (32 ≤ x) && decide (x ≤ 126) && !(x == 34) && !(x == 92) && !(x == 124)
theorem plain_eq (x : Int) : lexer_plain.f x = some (plainB x) := by
  unfold lexer_plain.f plainB
  by_cases h1 : x ≥ 32 <;> by_cases h2 : x ≤ 126 <;> by_cases h3 : x = 34 <;> by_cases h4 : x = 92 <;> by_cases h5 : x = 124 <;> first | (exfalso; omega) | (simp [h1, h2, h3, h4, h5]; done) | (simp [h1, h2, h3, h4, h5]; omega) | (subst h3; decide) | (subst h4; decide) | (subst h5; decide) | (have e3 := beq_eq_false_iff_ne.mpr h3; have e4 := beq_eq_false_iff_ne.mpr h4; have e5 := beq_eq_false_iff_ne.mpr h5; have h1' : 32 ≤ x := h1; simp only [h1, h1', h2, h3, h4, if_true, if_false, e3, e4, e5, bne, decide_true, Bool.not_false, Bool.and_true])
def lexer_text.l0 : Nat → ByteArray → Int → List UInt8 → Option (ByteArray × Int × Bool)
  | 0, _, _, _ => none
  | k + 1, s, x, out =>
    if x < (s.size : Int) then
      if bt s x = 34 then some (⟨out.toArray⟩, x + 1, true)
      else if plainB (bt s x) = true then (if out.length < 1000000 then lexer_text.l0 k s (x + 1) (out ++ [byt (bt s x)]) else none)
      else if bt s x = 92 then
        if x + 1 < (s.size : Int) then
          if (plainB (bt s (x + 1)) || decide (bt s (x + 1) < 32) || decide (bt s (x + 1) > 126)) = true then some (⟨#[]⟩, x + 1, false)
          else (if out.length < 1000000 then lexer_text.l0 k s (x + 2) (out ++ [byt (bt s (x + 1))]) else none)
        else some (⟨#[]⟩, x + 1, false)
      else if bt s x = 124 then
        (lexer_group.f k s (x + 1)).bind fun t => if t.2.2 = true then (if out.length + t.1.size ≤ 1000000 then (if 0 ≤ t.2.1 then lexer_text.l0 k s t.2.1 (out ++ t.1.data.toList) else none) else none) else some (⟨#[]⟩, t.2.1, false)
      else some (⟨#[]⟩, x, false)
    else some (⟨#[]⟩, x, false)
def lexer_text.f (k : Nat) (a0 : ByteArray) (a1 : Int) : Option (ByteArray × Int × Bool) := if 0 ≤ a1 then (if a0.size ≤ 1000000 then lexer_text.l0 k a0 a1 [] else none) else none
theorem lexer_text.mono_l : ∀ (k : Nat) (s : ByteArray) (x : Int) (out : List UInt8), LeO (lexer_text.l0 k s x out) (lexer_text.l0 (k + 1) s x out) := by
  intro k
  induction k with
  | zero => intro s x out; exact LeO.none _
  | succ k ih =>
    intro s x out
    rw [lexer_text.l0, lexer_text.l0]
    refine LeO.ite (LeO.ite (LeO.refl _) (LeO.ite (LeO.ite (ih _ _ _) (LeO.refl _)) (LeO.ite (LeO.ite (LeO.ite (LeO.refl _) (LeO.ite (ih _ _ _) (LeO.refl _))) (LeO.refl _)) (LeO.ite (LeO.bind (lexer_group.mono _ _ _) fun t => ?_) (LeO.refl _))))) (LeO.refl _)
    exact LeO.ite (LeO.ite (LeO.ite (ih _ _ _) (LeO.refl _)) (LeO.refl _)) (LeO.refl _)
theorem lexer_text.mono : ∀ a0 a1 k, LeO (lexer_text.f k a0 a1) (lexer_text.f (k + 1) a0 a1) := fun a0 a1 k => LeO.ite (LeO.ite (lexer_text.mono_l _ _ _ _) (LeO.refl _)) (LeO.refl _)
structure TextI (s : ByteArray) (gg : Nat) (x : Int) (out : List UInt8) (r : ByteArray × Int × Bool) : Prop where
  val : lexer_text.l0 gg s x out = some r
  pos : 0 ≤ x
  sz : s.size ≤ 1000000
section
variable {s : ByteArray} {gg : Nat} {x : Int} {out : List UInt8} {r : ByteArray × Int × Bool}
theorem TextI.suc (h : TextI s gg x out r) : ∃ g, gg = g + 1 := by
  cases gg with
  | zero => have := h.val; simp [lexer_text.l0] at this
  | succ g => exact ⟨g, rfl⟩
theorem TextI.fin (h : TextI s gg x out r) (hx : ¬ x < (s.size : Int)) : r = (⟨#[]⟩, x, false) := by
  obtain ⟨g, rfl⟩ := h.suc
  have := h.val
  rw [lexer_text.l0, if_neg hx] at this
  exact (Option.some.inj this).symm
theorem TextI.quote (h : TextI s gg x out r) (hx : x < (s.size : Int)) (h1 : bt s x = 34) : r = (⟨out.toArray⟩, x + 1, true) := by
  obtain ⟨g, rfl⟩ := h.suc
  have := h.val
  rw [lexer_text.l0, if_pos hx, if_pos h1] at this
  exact (Option.some.inj this).symm
theorem TextI.plain (h : TextI s gg x out r) (hx : x < (s.size : Int)) (h1 : ¬ bt s x = 34) (h2 : plainB (bt s x) = true) : ∃ g, gg = g + 1 ∧ out.length < 1000000 ∧ TextI s g (x + 1) (out ++ [byt (bt s x)]) r := by
  obtain ⟨g, rfl⟩ := h.suc
  have := h.val
  rw [lexer_text.l0, if_pos hx, if_neg h1, if_pos h2] at this
  split at this
  · rename_i hl
    exact ⟨g, rfl, hl, this, by have := h.pos; omega, h.sz⟩
  · cases this
theorem TextI.esc0 (h : TextI s gg x out r) (hx : x < (s.size : Int)) (h1 : ¬ bt s x = 34) (h2 : ¬ plainB (bt s x) = true) (h3 : bt s x = 92) (h4 : ¬ x + 1 < (s.size : Int)) : r = (⟨#[]⟩, x + 1, false) := by
  obtain ⟨g, rfl⟩ := h.suc
  have := h.val
  rw [lexer_text.l0, if_pos hx, if_neg h1, if_neg h2, if_pos h3, if_neg h4] at this
  exact (Option.some.inj this).symm
theorem TextI.esc1 (h : TextI s gg x out r) (hx : x < (s.size : Int)) (h1 : ¬ bt s x = 34) (h2 : ¬ plainB (bt s x) = true) (h3 : bt s x = 92) (h4 : x + 1 < (s.size : Int)) (h5 : (plainB (bt s (x + 1)) || decide (bt s (x + 1) < 32) || decide (bt s (x + 1) > 126)) = true) : r = (⟨#[]⟩, x + 1, false) := by
  obtain ⟨g, rfl⟩ := h.suc
  have := h.val
  rw [lexer_text.l0, if_pos hx, if_neg h1, if_neg h2, if_pos h3, if_pos h4, if_pos h5] at this
  exact (Option.some.inj this).symm
theorem TextI.esc2 (h : TextI s gg x out r) (hx : x < (s.size : Int)) (h1 : ¬ bt s x = 34) (h2 : ¬ plainB (bt s x) = true) (h3 : bt s x = 92) (h4 : x + 1 < (s.size : Int)) (h5 : ¬ (plainB (bt s (x + 1)) || decide (bt s (x + 1) < 32) || decide (bt s (x + 1) > 126)) = true) : ∃ g, gg = g + 1 ∧ out.length < 1000000 ∧ TextI s g (x + 2) (out ++ [byt (bt s (x + 1))]) r := by
  obtain ⟨g, rfl⟩ := h.suc
  have := h.val
  rw [lexer_text.l0, if_pos hx, if_neg h1, if_neg h2, if_pos h3, if_pos h4, if_neg h5] at this
  split at this
  · rename_i hl
    exact ⟨g, rfl, hl, this, by have := h.pos; omega, h.sz⟩
  · cases this
theorem TextI.bar (h : TextI s gg x out r) (hx : x < (s.size : Int)) (h1 : ¬ bt s x = 34) (h2 : ¬ plainB (bt s x) = true) (h3 : ¬ bt s x = 92) (h4 : bt s x = 124) : ∃ g t, gg = g + 1 ∧ lexer_group.f g s (x + 1) = some t ∧ ((t.2.2 = true ∧ out.length + t.1.size ≤ 1000000 ∧ TextI s g t.2.1 (out ++ t.1.data.toList) r) ∨ (t.2.2 = false ∧ r = (⟨#[]⟩, t.2.1, false))) := by
  obtain ⟨g, rfl⟩ := h.suc
  have := h.val
  rw [lexer_text.l0, if_pos hx, if_neg h1, if_neg h2, if_neg h3, if_pos h4] at this
  obtain ⟨t, ht, h5⟩ := Option.bind_eq_some_iff.1 this
  refine ⟨g, t, rfl, ht, ?_⟩
  split at h5
  · rename_i h6
    split at h5
    · rename_i h7
      split at h5
      · rename_i h8
        exact .inl ⟨h6, h7, h5, h8, h.sz⟩
      · cases h5
    · cases h5
  · rename_i h6
    exact .inr ⟨by simpa using h6, (Option.some.inj h5).symm⟩
theorem TextI.bad (h : TextI s gg x out r) (hx : x < (s.size : Int)) (h1 : ¬ bt s x = 34) (h2 : ¬ plainB (bt s x) = true) (h3 : ¬ bt s x = 92) (h4 : ¬ bt s x = 124) : r = (⟨#[]⟩, x, false) := by
  obtain ⟨g, rfl⟩ := h.suc
  have := h.val
  rw [lexer_text.l0, if_pos hx, if_neg h1, if_neg h2, if_neg h3, if_neg h4] at this
  exact (Option.some.inj this).symm
end
theorem u8_bt (s : ByteArray) (x : Int) : (((byt (bt s x)).toNat : Nat) : Int) = bt s x := by
  have := bt_range s x
  unfold byt
  rw [UInt8.toNat_ofNat']
  omega
theorem wplus {x : Int} (h0 : 0 ≤ x) (h : x ≤ 1000000) (j : Int) (hj : 0 ≤ j) (hj2 : j ≤ 5) : wrap64 (x + j) = x + j := by unfold wrap64; omega
theorem ret_text {r1 a : ByteArray} {r2 b : Int} {r3 c : Bool} (h : (r1, r2, r3) = (a, b, c)) : Ending.returned (.tuple #[.string a, .int .i64 b, .bool c]) = .returned (.tuple #[.string r1, .int .i64 r2, .bool r3]) := by
  simp only [Prod.mk.injEq] at h
  obtain ⟨rfl, rfl, rfl⟩ := h
  rfl
theorem lexer_text.calls (k : Nat) (a0 : ByteArray) (a1 : Int) (r1 : ByteArray) (r2 : Int) (r3 : Bool) (w : World) (h : lexer_text.f k a0 a1 = some (r1, r2, r3)) :
    Calls Tryz.prog 130 #[.string a0, .int .i64 a1] w fun e w' => e = .returned (.tuple #[.string r1, .int .i64 r2, .bool r3]) ∧ Below w.heap.size w w' := by
  unfold lexer_text.f at h
  split at h
  case isFalse => cases h
  rename_i hp
  split at h
  case isFalse => cases h
  rename_i hs
  have HT : Aside0 (TextI a0 k a1 [] (r1, r2, r3)) := ⟨⟨h, hp, hs⟩⟩
  have HB := Aside0.mk (bld_new w)
  have HW := Aside0.mk (below_alloc (Below.refl w.heap.size w) (.cells #[.pointer none, .slice none 0 0] 62))
  clear h hp hs
  go_enter Tryz.func130, Tryz.ntmps130
  go_upto_region 2 with (fail)
  obtain ⟨B, hBB⟩ : ∃ B, w.heap.size = B := ⟨_, rfl⟩
  rw [hBB] at HB HW
  simp only [hBB]
  have HBB := Aside0.mk hBB
  clear hBB
  generalize w.alloc (.cells #[.pointer none, .slice none 0 0] 62) = W at HB HW ⊢
  go_loopg [1] k (fun gg v1 wr => ∃ (x : Int) (out : List UInt8), v1 = .int .i64 x ∧ Aside0 (TextI a0 gg x out (r1, r2, r3)) ∧ Aside0 (IsBld B B out wr) ∧ Aside0 (Below B w wr))
  case atStart => exact ⟨_, _, rfl, HT, HB, HW⟩
  case round =>
    obtain ⟨x, out, rfl, HI, HC, HD⟩ := hrel
    clear HT HB HW
    have hp : 0 ≤ x := HI.out.pos
    have hq : a0.size ≤ 1000000 := HI.out.sz
    have HS : Aside0 (B ≤ wr.heap.size) := ⟨HBB.out ▸ HD.out.size⟩
    by_cases hx : x < (a0.size : Int)
    · have c0 : decide (x < (a0.size : Int)) = true := decide_eq_true hx
      have hx0 : ∀ h : x.toNat < a0.size, ((a0[x.toNat]'h).toNat : Int) = bt a0 x := bt_at a0 x
      have hz0 : x.toNat < a0.size := by omega
      have hz1 : (x.toNat < a0.size) = True := eq_true hz0
      have W1 := Aside0.mk (wplus hp (Int.le_trans (Int.le_of_lt hx) (by omega)) 1 (by omega) (by omega))
      by_cases h34 : bt a0 x = 34
      · have HR := Aside0.mk (HI.out.quote hx h34)
        have c1 : (bt a0 x == 34) = true := beq_iff_eq.mpr h34
        clear h34
        have w1 := W1.out
        go_wp2_with fail
        refine (bld_string B B out wr HC.out HS.out).mono ?_
        rintro e w2 ⟨rfl, hb1, hb2, hb3⟩
        have HD2 := Aside0.mk (HD.out.trans hb2)
        clear hb1 hb2 hb3
        go_wp2
        go_ret3
        exact ⟨ret_text HR.out, by rw [HBB.out]; exact HD2.out⟩
      · have c1 : (bt a0 x == 34) = false := beq_eq_false_iff_ne.mpr h34
        by_cases hpl : plainB (bt a0 x) = true
        · obtain ⟨g, hg, hl, hT⟩ := HI.out.plain hx h34 hpl
          have HT := Aside0.mk hT
          have HL := Aside0.mk hl
          have HG := Aside0.mk hg
          have HP := Aside0.mk ((plain_eq (bt a0 x)).trans (congrArg some hpl))
          have HU := Aside0.mk (u8_bt a0 x)
          clear hT hl hg hpl h34
          have w1 := W1.out
          go_wp2_with fail
          refine (lexer_plain.calls (bt a0 x) true wr HP.out).mono ?_
          rintro e w2 ⟨rfl, hb⟩
          have HC2 : Aside0 (IsBld B B out w2) := ⟨bld_below HC.out hb.below⟩
          have HD2 := Aside0.mk (HD.out.trans (hb.below.mono HS.out))
          have HS2 : Aside0 (B ≤ w2.heap.size) := ⟨Nat.le_trans HS.out hb.below.size⟩
          clear hb
          go_wp2_with fail
          rw [← HU.out]
          refine (bld_byte B B out (byt (bt a0 x)) w2 HC2.out (Nat.lt_of_lt_of_le HL.out (by decide)) HS2.out).mono ?_
          rintro e w3 ⟨rfl, hc1, hc2, hc3⟩
          have HC3 := Aside0.mk hc1
          have HD3 := Aside0.mk (HD2.out.trans hc2)
          clear hc1 hc2 hc3
          go_wp2
          have hg := HG.out
          clear HG
          subst hg
          go_roundg g
          case measure => exact Nat.lt_succ_self g
          case rel => exact ⟨_, _, rfl, HT, HC3, HD3⟩
        · have HP := Aside0.mk ((plain_eq (bt a0 x)).trans (congrArg some (Bool.eq_false_iff.2 hpl)))
          by_cases h92 : bt a0 x = 92
          · have c2 : (bt a0 x == 92) = true := beq_iff_eq.mpr h92
            by_cases hx1 : x + 1 < (a0.size : Int)
            · have c3 : decide (x + 1 ≥ (a0.size : Int)) = false := decide_eq_false (by omega)
              have hy0 : ∀ h : (x + 1).toNat < a0.size, ((a0[(x + 1).toNat]'h).toNat : Int) = bt a0 (x + 1) := bt_at a0 (x + 1)
              have hv0 : (x + 1).toNat < a0.size := by omega
              have hv1 : ((x + 1).toNat < a0.size) = True := eq_true hv0
              have hv2 : 0 ≤ x + 1 := by omega
              have HQ := Aside0.mk (plain_eq (bt a0 (x + 1)))
              by_cases h5 : (plainB (bt a0 (x + 1)) || decide (bt a0 (x + 1) < 32) || decide (bt a0 (x + 1) > 126)) = true
              · have HR := Aside0.mk (HI.out.esc1 hx h34 hpl h92 hx1 h5)
                clear h34 hpl h92
                have HQ5 := Aside0.mk h5
                clear h5
                have w1 := W1.out
                go_wp2_with fail
                refine (lexer_plain.calls (bt a0 x) false wr HP.out).mono ?_
                rintro e w2 ⟨rfl, hb⟩
                have HD2 := Aside0.mk (HD.out.trans (hb.below.mono HS.out))
                have HS2 : Aside0 (B ≤ w2.heap.size) := ⟨Nat.le_trans HS.out hb.below.size⟩
                clear hb
                go_wp2_with fail
                refine (lexer_plain.calls (bt a0 (x + 1)) _ w2 HQ.out).mono ?_
                rintro e w3 ⟨rfl, hb⟩
                have HD3 := Aside0.mk (HD2.out.trans (hb.below.mono HS2.out))
                clear hb
                have h5 := HQ5.out
                cases hq1 : plainB (bt a0 (x + 1)) with
                | true =>
                  clear h5 hq1
                  go_wp2
                  go_ret3
                  exact ⟨ret_text HR.out, by rw [HBB.out]; exact HD3.out⟩
                | false =>
                  cases hq2 : decide (bt a0 (x + 1) < 32) with
                  | true =>
                    clear h5 hq1
                    go_wp2
                    go_ret3
                    exact ⟨ret_text HR.out, by rw [HBB.out]; exact HD3.out⟩
                  | false =>
                    have hq3 : decide (bt a0 (x + 1) > 126) = true := by simpa [hq1, hq2] using h5
                    clear h5 hq1
                    go_wp2
                    go_ret3
                    exact ⟨ret_text HR.out, by rw [HBB.out]; exact HD3.out⟩
              · obtain ⟨g, hg, hl, hT⟩ := HI.out.esc2 hx h34 hpl h92 hx1 h5
                have HT := Aside0.mk hT
                have HL := Aside0.mk hl
                have HG := Aside0.mk hg
                have HU := Aside0.mk (u8_bt a0 (x + 1))
                have h5' : (plainB (bt a0 (x + 1)) = false ∧ decide (bt a0 (x + 1) < 32) = false) ∧ decide (bt a0 (x + 1) > 126) = false := by
                  have := Bool.eq_false_iff.2 h5
                  rw [Bool.or_eq_false_iff, Bool.or_eq_false_iff] at this
                  exact this
                have HQ2 := Aside0.mk (HQ.out.trans (congrArg some h5'.1.1))
                have q2 := h5'.1.2
                have q3 := h5'.2
                have W2 := Aside0.mk (wplus hv2 (Int.le_trans (Int.le_of_lt hx1) (by omega)) 1 (by omega) (by omega))
                clear hT hl hg hpl h34 h92 h5 h5'
                have w1 := W1.out
                go_wp2_with fail
                refine (lexer_plain.calls (bt a0 x) false wr HP.out).mono ?_
                rintro e w2 ⟨rfl, hb⟩
                have HC2 : Aside0 (IsBld B B out w2) := ⟨bld_below HC.out hb.below⟩
                have HD2 := Aside0.mk (HD.out.trans (hb.below.mono HS.out))
                have HS2 : Aside0 (B ≤ w2.heap.size) := ⟨Nat.le_trans HS.out hb.below.size⟩
                clear hb
                go_wp2_with fail
                refine (lexer_plain.calls (bt a0 (x + 1)) false w2 HQ2.out).mono ?_
                rintro e w3 ⟨rfl, hb⟩
                have HC3 : Aside0 (IsBld B B out w3) := ⟨bld_below HC2.out hb.below⟩
                have HD3 := Aside0.mk (HD2.out.trans (hb.below.mono HS2.out))
                have HS3 : Aside0 (B ≤ w3.heap.size) := ⟨Nat.le_trans HS2.out hb.below.size⟩
                clear hb
                have w2' := W2.out
                go_wp2_with fail
                rw [← HU.out]
                refine (bld_byte B B out (byt (bt a0 (x + 1))) w3 HC3.out (Nat.lt_of_lt_of_le HL.out (by decide)) HS3.out).mono ?_
                rintro e w4 ⟨rfl, hc1, hc2, hc3⟩
                have HC4 := Aside0.mk hc1
                have HD4 := Aside0.mk (HD3.out.trans hc2)
                clear hc1 hc2 hc3
                go_wp2
                have hg := HG.out
                clear HG
                subst hg
                go_roundg g
                case measure => exact Nat.lt_succ_self g
                case rel => exact ⟨x + 2, _, congrArg (Value.int .i64) (Int.add_assoc x 1 1), HT, HC4, HD4⟩
            · have HR := Aside0.mk (HI.out.esc0 hx h34 hpl h92 hx1)
              have c3 : decide (x + 1 ≥ (a0.size : Int)) = true := decide_eq_true (by omega)
              clear h34 hpl h92
              have w1 := W1.out
              go_wp2_with fail
              refine (lexer_plain.calls (bt a0 x) false wr HP.out).mono ?_
              rintro e w2 ⟨rfl, hb⟩
              have HD2 := Aside0.mk (HD.out.trans (hb.below.mono HS.out))
              clear hb
              go_wp2
              go_ret3
              exact ⟨ret_text HR.out, by rw [HBB.out]; exact HD2.out⟩
          · have c2 : (bt a0 x == 92) = false := beq_eq_false_iff_ne.mpr h92
            by_cases h124 : bt a0 x = 124
            · have c3 : (bt a0 x == 124) = true := beq_iff_eq.mpr h124
              obtain ⟨g, ⟨t1, t2, t3⟩, hg, hgr, hT⟩ := HI.out.bar hx h34 hpl h92 h124
              have HT := Aside0.mk hT
              have HGR := Aside0.mk hgr
              have HG := Aside0.mk hg
              clear h34 hpl h92 h124 hT hgr hg
              have w1 := W1.out
              go_wp2_with fail
              refine (lexer_plain.calls (bt a0 x) false wr HP.out).mono ?_
              rintro e w2 ⟨rfl, hb⟩
              have HC2 : Aside0 (IsBld B B out w2) := ⟨bld_below HC.out hb.below⟩
              have HD2 := Aside0.mk (HD.out.trans (hb.below.mono HS.out))
              have HS2 : Aside0 (B ≤ w2.heap.size) := ⟨Nat.le_trans HS.out hb.below.size⟩
              clear hb
              go_wp2_with fail
              refine (lexer_group.calls g a0 (x + 1) t1 t2 t3 w2 HGR.out).mono ?_
              rintro e w3 ⟨rfl, hb⟩
              have HC3 : Aside0 (IsBld B B out w3) := ⟨bld_below HC2.out hb⟩
              have HD3 := Aside0.mk (HD2.out.trans (hb.mono HS2.out))
              have HS3 : Aside0 (B ≤ w3.heap.size) := ⟨Nat.le_trans HS2.out hb.size⟩
              clear hb
              rcases HT.out with ⟨h6, hl, hT⟩ | ⟨h6, hR⟩
              · have HL := Aside0.mk hl
                have HT' := Aside0.mk hT
                change t3 = true at h6
                subst h6
                clear hl hT HT
                go_wp2_with fail
                refine (bld_str B B out t1 w3 HC3.out (Nat.le_trans HL.out (by decide)) HS3.out).mono ?_
                rintro e w4 ⟨rfl, hc1, hc2, hc3⟩
                have HC4 := Aside0.mk hc1
                have HD4 := Aside0.mk (HD3.out.trans hc2)
                clear hc1 hc2 hc3
                go_wp2
                have hg := HG.out
                clear HG
                subst hg
                go_roundg g
                case measure => exact Nat.lt_succ_self g
                case rel => exact ⟨_, _, rfl, HT', HC4, HD4⟩
              · have HR := Aside0.mk hR
                change t3 = false at h6
                subst h6
                clear hR HT
                go_wp2
                go_ret3
                exact ⟨ret_text HR.out, by rw [HBB.out]; exact HD3.out⟩
            · have c3 : (bt a0 x == 124) = false := beq_eq_false_iff_ne.mpr h124
              have HR := Aside0.mk (HI.out.bad hx h34 hpl h92 h124)
              clear h34 hpl h92 h124
              have w1 := W1.out
              go_wp2_with fail
              refine (lexer_plain.calls (bt a0 x) false wr HP.out).mono ?_
              rintro e w2 ⟨rfl, hb⟩
              have HD2 := Aside0.mk (HD.out.trans (hb.below.mono HS.out))
              clear hb
              go_wp2
              go_ret3
              exact ⟨ret_text HR.out, by rw [HBB.out]; exact HD2.out⟩
    · have HR := Aside0.mk (HI.out.fin hx)
      have c0 : decide (x < (a0.size : Int)) = false := decide_eq_false hx
      skip
      go_wp2
      go_ret3
      exact ⟨ret_text HR.out, by rw [HBB.out]; exact HD.out⟩
end Go.Proofs.YtnphnhkinjppjaaGreatDoor.Q
end

section
set_option maxHeartbeats 8000000
set_option maxRecDepth 100000
namespace Go.Proofs.YtnphnhkinjppjaaGreatDoor.Q
open Go.RowKit Go.Proofs.YtnphnhkinjppjaaGreatDoorW.PrintWords Go.Proofs.YtnphnhkinjppjaaGreatDoorW.PrintLast Go.Proofs.YtnphnhkinjppjaaGreatDoorW.PrintMore
attribute [local go_sem] max2_int min2_int max_two min_two max_three min_three max_four min_four
def lexer_token.f (k : Nat) (a0 : ByteArray) (a1 : Int) : Option (Int × ByteArray × Int × Int × Int × Int) := if 0 ≤ a1 then (if a1 < (a0.size : Int) then ((lexer_inWord.f k (bt a0 a1)).bind fun t165 => (if t165 = true then ((lexer_while_at_lexer_inWord.f k a0 a1).bind fun t166 => (if (wrap64 (t166 - a1)) > 80 then (some (0, (⟨#[]⟩ : ByteArray), a1, 0, 3, a1)) else (if a1 ≤ t166 then (if t166 ≤ (a0.size : Int) then (some (1, a0.extract (a1 : Int).toNat (t166 : Int).toNat, a1, t166, 0, 0)) else (none)) else (none)))) else (if (bt a0 a1) = 36 then ((lexer_while_at_lexer_inName.f k a0 (wrap64 (a1 + 1))).bind fun t167 => (if 0 ≤ (wrap64 (a1 + 1)) then (if (wrap64 (a1 + 1)) ≤ t167 then (if t167 ≤ (a0.size : Int) then ((lexer_IsName.f k (a0.extract ((wrap64 (a1 + 1)) : Int).toNat (t167 : Int).toNat)).bind fun t168 => (if t168 = true then (some (3, a0.extract ((wrap64 (a1 + 1)) : Int).toNat (t167 : Int).toNat, a1, t167, 0, 0)) else (some (0, (⟨#[]⟩ : ByteArray), a1, 0, 5, a1)))) else (none)) else (none)) else (none))) else (if (bt a0 a1) = 34 then ((lexer_text.f k a0 (wrap64 (a1 + 1))).bind fun bt169 => (if bt169.2.2 = true then (if (bt169.1.size : Int) > 256 then (some (0, (⟨#[]⟩ : ByteArray), a1, 0, 3, a1)) else (some (2, bt169.1, a1, bt169.2.1, 0, 0))) else (some (0, (⟨#[]⟩ : ByteArray), a1, 0, 14, bt169.2.1)))) else ((lexer_mark.f k a0 a1).bind fun t172 => (if t172.toList = ([] : List UInt8) then (some (0, (⟨#[]⟩ : ByteArray), a1, 0, 14, a1)) else (some (4, t172, a1, wrap64 (a1 + (t172.size : Int)), 0, 0)))))))) else (none)) else (none)
theorem lexer_token.mono : ∀ a0 a1 k, LeO (lexer_token.f k a0 a1) (lexer_token.f (k + 1) a0 a1) := by
  intro a0 a1 k
  unfold lexer_token.f
  repeat' first
      | (with_reducible exact lexer_IsName.mono _ _)
      | (with_reducible exact lexer_inWord.mono _ _)
      | (with_reducible exact lexer_mark.mono _ _ _)
      | (with_reducible exact lexer_text.mono _ _ _)
      | (with_reducible exact lexer_while_at_lexer_inName.mono _ _ _)
      | (with_reducible exact lexer_while_at_lexer_inWord.mono _ _ _)
      | (with_reducible exact LeO.refl _)
      | (with_reducible exact LeO.none _)
      | (with_reducible refine LeO.ite ?_ ?_)
      | (with_reducible refine LeO.bind ?_ (fun _ => ?_))
theorem tk_put {w : World} {g : Nat} {t : TypeId} {u0 u1 u2 v0 v1 v2 : Value} (h : w.heap[g]? = some (.cells #[u0, u1, u2] t (0, 0))) : (((w.setCell ⟨g, 0, none⟩ v0).setCell ⟨g, 1, none⟩ v1).setCell ⟨g, 2, none⟩ v2).heap[g]? = some (.cells #[v0, v1, v2] t (0, 0)) := by
  refine blk_put (cs := #[v0, v1, u2]) ?_ 2 _ rfl
  refine blk_put (cs := #[v0, u1, u2]) ?_ 1 _ rfl
  refine blk_put (cs := #[u0, u1, u2]) ?_ 0 _ rfl
  exact h
theorem tk_below {w W : World} {g : Nat} {v0 v1 v2 : Value} (h : Below w.heap.size w W) (hg : w.heap.size ≤ g) : Below w.heap.size w (((W.setCell ⟨g, 0, none⟩ v0).setCell ⟨g, 1, none⟩ v1).setCell ⟨g, 2, none⟩ v2) := by
  repeat (refine below_set ?_ hg)
  exact h
structure TkI (w W : World) (gr gt : Nat) (u0 u1 u2 : Value) : Prop where
  res : W.heap[gr]? = some (.cells #[.int .i64 0, .string (⟨#[]⟩ : ByteArray), .int .i64 0] 84 (0, 0))
  tok : W.heap[gt]? = some (.cells #[u0, u1, u2] 84 (0, 0))
  bel : Below w.heap.size w W
  ger : w.heap.size ≤ gr
  get : w.heap.size ≤ gt
  ne : gr ≠ gt
theorem TkI.below {w W W1 : World} {gr gt : Nat} {u0 u1 u2 : Value} (h : TkI w W gr gt u0 u1 u2) (hb : Below W.heap.size W W1) : TkI w W1 gr gt u0 u1 u2 := ⟨blk_below h.res hb, blk_below h.tok hb, below_then h.bel h.bel.size hb, h.ger, h.get, h.ne⟩
theorem TkI.put0 {w W : World} {gr gt : Nat} {u0 u1 u2 : Value} (h : TkI w W gr gt u0 u1 u2) (v : Value) : TkI w (W.setCell ⟨gt, 0, none⟩ v) gr gt v u1 u2 := ⟨blk_far h.res h.ne _, blk_put h.tok 0 _ rfl, below_set h.bel h.get, h.ger, h.get, h.ne⟩
theorem TkI.put1 {w W : World} {gr gt : Nat} {u0 u1 u2 : Value} (h : TkI w W gr gt u0 u1 u2) (v : Value) : TkI w (W.setCell ⟨gt, 1, none⟩ v) gr gt u0 v u2 := ⟨blk_far h.res h.ne _, blk_put h.tok 1 _ rfl, below_set h.bel h.get, h.ger, h.get, h.ne⟩
theorem lexer_token.calls (k : Nat) (a0 : ByteArray) (a1 : Int) (r1 : Int) (r2 : ByteArray) (r3 : Int) (r4 : Int) (r5 : Int) (r6 : Int) (w : World) (h : lexer_token.f k a0 a1 = some (r1, r2, r3, r4, r5, r6)) :
 Calls Tryz.prog 102 #[.string a0, .int .i64 a1] w fun e w' => e = .returned (.tuple #[.agg #[.int .i64 r1, .string r2, .int .i64 r3], .int .i64 r4, .int .i64 r5, .int .i64 r6]) ∧ Below w.heap.size w w' := by
  have hu84 := Tryz.underlying84
  unfold lexer_token.f at h
  by_cases c3 : 0 ≤ a1
  rotate_left
  · rw [if_neg c3] at h; exact absurd h (by simp)
  rw [if_pos c3] at h
  by_cases c4 : a1 < (a0.size : Int)
  rotate_left
  · rw [if_neg c4] at h; exact absurd h (by simp)
  rw [if_pos c4] at h
  have q0 : decide (0 ≤ a1) = true := decide_eq_true c3
  have q1 : decide (a1 < (a0.size : Int)) = true := decide_eq_true c4
  have hlt : a1.toNat < a0.size := by omega
  have hbt := bt_at a0 a1 hlt
  have hin : 0 ≤ a1 ∧ a1 < (a0.size : Int) := ⟨c3, c4⟩
  have HH := Aside0.mk h
  clear h c3 c4
  go_enter Tryz.func102, Tryz.ntmps102
  go_upto_region 1 with (fail)
  have HR0 : Aside0 ((w.alloc (.cells #[.int .i64 0, .string (⟨#[]⟩ : ByteArray), .int .i64 0] 84)).heap[w.heap.size]? = some (.cells #[.int .i64 0, .string (⟨#[]⟩ : ByteArray), .int .i64 0] 84 (0, 0))) := ⟨heap_alloc_new _ _⟩
  have HB0 := Aside0.mk (below_alloc (Below.refl w.heap.size w) (.cells #[.int .i64 0, .string (⟨#[]⟩ : ByteArray), .int .i64 0] 84))
  obtain ⟨gr, hg⟩ : ∃ x, w.heap.size = x := ⟨_, rfl⟩
  have HG : Aside0 (w.heap.size ≤ gr) := ⟨by omega⟩
  rw [hg] at HR0
  simp only [hg]
  clear hg
  change Code.wp _ _ _ _ (w.alloc (.cells #[.int .i64 0, .string (⟨#[]⟩ : ByteArray), .int .i64 0] 84))
  generalize w.alloc (.cells #[.int .i64 0, .string (⟨#[]⟩ : ByteArray), .int .i64 0] 84) = W1 at HR0 HB0 ⊢
  go_upto_region 2 with (fail)
  have HT : Aside0 (TkI w (W1.alloc (.cells #[.int .i64 0, .string (⟨#[]⟩ : ByteArray), .int .i64 a1] 84)) gr W1.heap.size (.int .i64 0) (.string (⟨#[]⟩ : ByteArray)) (.int .i64 a1)) := ⟨blk_alloc HR0.out _, heap_alloc_new _ _, below_alloc HB0.out _, HG.out, HB0.out.size, by have := blk_lt HR0.out; omega⟩
  obtain ⟨gt, hg⟩ : ∃ x, W1.heap.size = x := ⟨_, rfl⟩
  rw [hg] at HT
  simp only [hg]
  clear hg HR0 HB0 HG
  change Code.wp _ _ _ _ (W1.alloc (.cells #[.int .i64 0, .string (⟨#[]⟩ : ByteArray), .int .i64 a1] 84))
  generalize W1.alloc (.cells #[.int .i64 0, .string (⟨#[]⟩ : ByteArray), .int .i64 a1] 84) = W2 at HT ⊢
  have h := HH.out
  clear HH
  replace h := Option.bind_eq_some_iff.mp h
  obtain ⟨iw, e1, h⟩ := h
  have E1 := Aside0.mk e1
  have HH := Aside0.mk h
  clear h e1
  go_wp2_with fail
  refine (lexer_inWord.calls k (bt a0 a1) iw W2 E1.out).mono ?_
  rintro e w3 ⟨rfl, hb⟩
  replace HT := Aside0.mk (HT.out.below hb.below)
  clear hb
  have h := HH.out
  clear HH
  cases iw
  rotate_left
  · rw [if_pos rfl] at h
    replace h := Option.bind_eq_some_iff.mp h
    obtain ⟨n, e2, h⟩ := h
    have E2 := Aside0.mk e2
    have HH := Aside0.mk h
    clear h e2
    go_wp2_with fail
    refine (lexer_while_at_lexer_inWord.calls k a0 a1 n w3 E2.out).mono ?_
    rintro e w4 ⟨rfl, hb⟩
    replace HT := Aside0.mk (HT.out.below hb.below)
    clear hb
    have h := HH.out
    clear HH
    by_cases c5 : wrap64 (n - a1) > 80
    · rw [if_pos c5] at h
      have c5a : decide (80 < wrap64 (n - a1)) = true := decide_eq_true c5
      clear c5
      simp only [Option.some.injEq, Prod.mk.injEq] at h
      obtain ⟨rfl, rfl, rfl, rfl, rfl, rfl⟩ := h
      obtain ⟨t0, t1, t2⟩ := zc3 (Aside0.mk HT.out.tok)
      obtain ⟨x0, x1, x2⟩ := zc3 (Aside0.mk HT.out.res)
      obtain ⟨f0, f1, f2⟩ := zf3 (Aside0.mk HT.out.res)
      go_wp2
      exact bodyPost_ret (results_list (rs := [.cell 4 84, .tmp 5, .tmp 6, .tmp 7]) rfl (by simp) (.cell gr 84 #[.int .i64 0, .string (⟨#[]⟩ : ByteArray), .int .i64 a1] (0, 0) _ rfl (tk_put HT.out.res) hu84 rfl (by kernel_rfl) (.tmp (.tmp (.tmp .nil))))) rfl ⟨rfl, tk_below HT.out.bel HT.out.ger⟩
    rw [if_neg c5] at h
    have c5a : decide (80 < wrap64 (n - a1)) = false := decide_eq_false c5
    clear c5
    by_cases c6 : a1 ≤ n
    rotate_left
    · rw [if_neg c6] at h; exact absurd h (by simp)
    rw [if_pos c6] at h
    by_cases c7 : n ≤ (a0.size : Int)
    rotate_left
    · rw [if_neg c7] at h; exact absurd h (by simp)
    rw [if_pos c7] at h
    have p0 : decide (a1 ≤ n) = true := decide_eq_true c6
    have p1 : decide (n ≤ (a0.size : Int)) = true := decide_eq_true c7
    have s0 := eq_true (of_decide_eq_true q0)
    have s1 := eq_true c6
    have s2 := eq_true c7
    have HH := Aside0.mk h
    clear h c6 c7
    go_upto_region 7 with (fail)
    refine start_ (n := 8) (S := fun w' => True) (ds := []) #[false, false, false, false, false, false, false, false] (by kernel_rfl) rfl rfl trivial (fun hHeld => ?_)
    replace HT := Aside0.mk (HT.out.below (below_drew (Below.refl _ _)))
    generalize World.drew _ = V1 at HT hHeld ⊢
    refine zp0 0 33 ?_
    refine zp0 1 34 ?_
    refine zp0 2 35 ?_
    refine zp0 3 36 ?_
    refine zp0 4 37 ?_
    refine one_ (i := 5) (N := none) #[true, true, true, true, true, true, false, false] rfl rfl (by kernel_rfl) (by decide) (fun K hK => ?_)
    obtain ⟨t0, t1, t2⟩ := zc3 (Aside0.mk HT.out.tok)
    obtain ⟨f0, f1, f2⟩ := zf3 (Aside0.mk HT.out.tok)
    refine skip_ (w1 := ?_) (by rfl) rfl ?_ ?_
    rotate_left
    · go_simp
      rfl
    refine hK.out _ _ trivial (fun hHeld => ?_)
    clear hK K t0 t1 t2 f0 f1 f2
    replace HT := Aside0.mk (HT.out.put0 (.int .i64 1))
    generalize World.setCell V1 _ _ = V2 at HT ⊢
    refine zp0 6 38 ?_
    refine one_ (i := 7) (N := none) #[true, true, true, true, true, true, true, true] rfl rfl (by kernel_rfl) (by decide) (fun K hK => ?_)
    obtain ⟨t0, t1, t2⟩ := zc3 (Aside0.mk HT.out.tok)
    obtain ⟨f0, f1, f2⟩ := zf3 (Aside0.mk HT.out.tok)
    refine skip_ (w1 := ?_) (by rfl) rfl ?_ ?_
    rotate_left
    · go_simp
      rfl
    refine hK.out _ _ trivial (fun hHeld => ?_)
    clear hK K t0 t1 t2 f0 f1 f2
    replace HT := Aside0.mk (HT.out.put1 (.string (a0.extract (a1 : Int).toNat (n : Int).toNat)))
    generalize World.setCell V2 _ _ = V3 at HT ⊢
    refine zd0 ?_
    have h := HH.out
    clear HH
    simp only [Option.some.injEq, Prod.mk.injEq] at h
    obtain ⟨rfl, rfl, rfl, rfl, rfl, rfl⟩ := h
    obtain ⟨t0, t1, t2⟩ := zc3 (Aside0.mk HT.out.tok)
    obtain ⟨x0, x1, x2⟩ := zc3 (Aside0.mk HT.out.res)
    obtain ⟨f0, f1, f2⟩ := zf3 (Aside0.mk HT.out.res)
    go_wp2
    exact bodyPost_ret (results_list (rs := [.cell 4 84, .tmp 5, .tmp 6, .tmp 7]) rfl (by simp) (.cell gr 84 #[.int .i64 1, .string (a0.extract (a1 : Int).toNat (n : Int).toNat), .int .i64 a1] (0, 0) _ rfl (tk_put HT.out.res) hu84 rfl (by kernel_rfl) (.tmp (.tmp (.tmp .nil))))) rfl ⟨rfl, tk_below HT.out.bel HT.out.ger⟩
  rw [if_neg Bool.false_ne_true] at h
  by_cases c36 : bt a0 a1 = 36
  · rw [if_pos c36] at h
    have c36a : (bt a0 a1 == 36) = true := beq_iff_eq.mpr c36
    clear c36
    replace h := Option.bind_eq_some_iff.mp h
    obtain ⟨n, e3, h⟩ := h
    have E3 := Aside0.mk e3
    have HH := Aside0.mk h
    clear h e3
    go_wp2_with fail
    refine (lexer_while_at_lexer_inName.calls k a0 (wrap64 (a1 + 1)) n w3 E3.out).mono ?_
    rintro e w4 ⟨rfl, hb⟩
    replace HT := Aside0.mk (HT.out.below hb.below)
    clear hb
    have h := HH.out
    clear HH
    by_cases c5 : 0 ≤ wrap64 (a1 + 1)
    rotate_left
    · rw [if_neg c5] at h; exact absurd h (by simp)
    rw [if_pos c5] at h
    by_cases c6 : wrap64 (a1 + 1) ≤ n
    rotate_left
    · rw [if_neg c6] at h; exact absurd h (by simp)
    rw [if_pos c6] at h
    by_cases c7 : n ≤ (a0.size : Int)
    rotate_left
    · rw [if_neg c7] at h; exact absurd h (by simp)
    rw [if_pos c7] at h
    have p2 : decide (0 ≤ wrap64 (a1 + 1)) = true := decide_eq_true c5
    have p0 : decide (wrap64 (a1 + 1) ≤ n) = true := decide_eq_true c6
    have p1 : decide (n ≤ (a0.size : Int)) = true := decide_eq_true c7
    have s0 := eq_true c5
    have s1 := eq_true c6
    have s2 := eq_true c7
    clear c5 c6 c7 c36a
    replace h := Option.bind_eq_some_iff.mp h
    obtain ⟨nm, e4, h⟩ := h
    have E4 := Aside0.mk e4
    have HH := Aside0.mk h
    clear h e4
    go_wp2_with fail
    refine (lexer_IsName.calls k (a0.extract ((wrap64 (a1 + 1)) : Int).toNat (n : Int).toNat) nm w4 E4.out).mono ?_
    rintro e w5 ⟨rfl, hb⟩
    replace HT := Aside0.mk (HT.out.below hb.below)
    clear hb
    have h := HH.out
    clear HH
    cases nm
    · rw [if_neg Bool.false_ne_true] at h
      simp only [Option.some.injEq, Prod.mk.injEq] at h
      obtain ⟨rfl, rfl, rfl, rfl, rfl, rfl⟩ := h
      obtain ⟨t0, t1, t2⟩ := zc3 (Aside0.mk HT.out.tok)
      obtain ⟨x0, x1, x2⟩ := zc3 (Aside0.mk HT.out.res)
      obtain ⟨f0, f1, f2⟩ := zf3 (Aside0.mk HT.out.res)
      go_wp2
      exact bodyPost_ret (results_list (rs := [.cell 4 84, .tmp 5, .tmp 6, .tmp 7]) rfl (by simp) (.cell gr 84 #[.int .i64 0, .string (⟨#[]⟩ : ByteArray), .int .i64 a1] (0, 0) _ rfl (tk_put HT.out.res) hu84 rfl (by kernel_rfl) (.tmp (.tmp (.tmp .nil))))) rfl ⟨rfl, tk_below HT.out.bel HT.out.ger⟩
    rw [if_pos rfl] at h
    have HH := Aside0.mk h
    clear h
    go_upto_region 13 with (fail)
    refine start_ (n := 9) (S := fun w' => True) (ds := []) #[false, false, false, false, false, false, false, false, false] (by kernel_rfl) rfl rfl trivial (fun hHeld => ?_)
    replace HT := Aside0.mk (HT.out.below (below_drew (Below.refl _ _)))
    generalize World.drew _ = V1 at HT hHeld ⊢
    refine zp0 0 57 ?_
    refine zp0 1 58 ?_
    refine zp0 2 59 ?_
    refine zp0 3 60 ?_
    refine zp0 4 61 ?_
    refine zp0 5 62 ?_
    refine one_ (i := 6) (N := none) #[true, true, true, true, true, true, true, false, false] rfl rfl (by kernel_rfl) (by decide) (fun K hK => ?_)
    obtain ⟨t0, t1, t2⟩ := zc3 (Aside0.mk HT.out.tok)
    obtain ⟨f0, f1, f2⟩ := zf3 (Aside0.mk HT.out.tok)
    refine skip_ (w1 := ?_) (by rfl) rfl ?_ ?_
    rotate_left
    · go_simp
      rfl
    refine hK.out _ _ trivial (fun hHeld => ?_)
    clear hK K t0 t1 t2 f0 f1 f2
    replace HT := Aside0.mk (HT.out.put0 (.int .i64 3))
    generalize World.setCell V1 _ _ = V2 at HT ⊢
    refine zp0 7 63 ?_
    refine one_ (i := 8) (N := none) #[true, true, true, true, true, true, true, true, true] rfl rfl (by kernel_rfl) (by decide) (fun K hK => ?_)
    obtain ⟨t0, t1, t2⟩ := zc3 (Aside0.mk HT.out.tok)
    obtain ⟨f0, f1, f2⟩ := zf3 (Aside0.mk HT.out.tok)
    refine skip_ (w1 := ?_) (by rfl) rfl ?_ ?_
    rotate_left
    · go_simp
      rfl
    refine hK.out _ _ trivial (fun hHeld => ?_)
    clear hK K t0 t1 t2 f0 f1 f2
    replace HT := Aside0.mk (HT.out.put1 (.string (a0.extract ((wrap64 (a1 + 1)) : Int).toNat (n : Int).toNat)))
    generalize World.setCell V2 _ _ = V3 at HT ⊢
    refine zd0 ?_
    have h := HH.out
    clear HH
    simp only [Option.some.injEq, Prod.mk.injEq] at h
    obtain ⟨rfl, rfl, rfl, rfl, rfl, rfl⟩ := h
    obtain ⟨t0, t1, t2⟩ := zc3 (Aside0.mk HT.out.tok)
    obtain ⟨x0, x1, x2⟩ := zc3 (Aside0.mk HT.out.res)
    obtain ⟨f0, f1, f2⟩ := zf3 (Aside0.mk HT.out.res)
    go_wp2
    exact bodyPost_ret (results_list (rs := [.cell 4 84, .tmp 5, .tmp 6, .tmp 7]) rfl (by simp) (.cell gr 84 #[.int .i64 3, .string (a0.extract ((wrap64 (a1 + 1)) : Int).toNat (n : Int).toNat), .int .i64 a1] (0, 0) _ rfl (tk_put HT.out.res) hu84 rfl (by kernel_rfl) (.tmp (.tmp (.tmp .nil))))) rfl ⟨rfl, tk_below HT.out.bel HT.out.ger⟩
  rw [if_neg c36] at h
  have c36a : (bt a0 a1 == 36) = false := beq_eq_false_iff_ne.mpr c36
  clear c36
  by_cases c34 : bt a0 a1 = 34
  · rw [if_pos c34] at h
    have c34a : (bt a0 a1 == 34) = true := beq_iff_eq.mpr c34
    clear c34
    replace h := Option.bind_eq_some_iff.mp h
    obtain ⟨⟨v, n, ok⟩, e5, h⟩ := h
    try dsimp only at e5 h
    have E5 := Aside0.mk e5
    have HH := Aside0.mk h
    clear h e5
    go_wp2_with fail
    refine (lexer_text.calls k a0 (wrap64 (a1 + 1)) v n ok w3 E5.out).mono ?_
    rintro e w4 ⟨rfl, hb⟩
    replace HT := Aside0.mk (HT.out.below hb)
    clear hb
    clear c36a c34a
    have h := HH.out
    clear HH
    cases ok
    · rw [if_neg Bool.false_ne_true] at h
      simp only [Option.some.injEq, Prod.mk.injEq] at h
      obtain ⟨rfl, rfl, rfl, rfl, rfl, rfl⟩ := h
      obtain ⟨t0, t1, t2⟩ := zc3 (Aside0.mk HT.out.tok)
      obtain ⟨x0, x1, x2⟩ := zc3 (Aside0.mk HT.out.res)
      obtain ⟨f0, f1, f2⟩ := zf3 (Aside0.mk HT.out.res)
      go_wp2
      exact bodyPost_ret (results_list (rs := [.cell 4 84, .tmp 5, .tmp 6, .tmp 7]) rfl (by simp) (.cell gr 84 #[.int .i64 0, .string (⟨#[]⟩ : ByteArray), .int .i64 a1] (0, 0) _ rfl (tk_put HT.out.res) hu84 rfl (by kernel_rfl) (.tmp (.tmp (.tmp .nil))))) rfl ⟨rfl, tk_below HT.out.bel HT.out.ger⟩
    rw [if_pos rfl] at h
    by_cases c8 : (v.size : Int) > 256
    · rw [if_pos c8] at h
      have c8a : decide (256 < (v.size : Int)) = true := decide_eq_true c8
      have c8b : decide (256 < v.size) = true := decide_eq_true (by omega)
      clear c8
      simp only [Option.some.injEq, Prod.mk.injEq] at h
      obtain ⟨rfl, rfl, rfl, rfl, rfl, rfl⟩ := h
      obtain ⟨t0, t1, t2⟩ := zc3 (Aside0.mk HT.out.tok)
      obtain ⟨x0, x1, x2⟩ := zc3 (Aside0.mk HT.out.res)
      obtain ⟨f0, f1, f2⟩ := zf3 (Aside0.mk HT.out.res)
      go_wp2
      exact bodyPost_ret (results_list (rs := [.cell 4 84, .tmp 5, .tmp 6, .tmp 7]) rfl (by simp) (.cell gr 84 #[.int .i64 0, .string (⟨#[]⟩ : ByteArray), .int .i64 a1] (0, 0) _ rfl (tk_put HT.out.res) hu84 rfl (by kernel_rfl) (.tmp (.tmp (.tmp .nil))))) rfl ⟨rfl, tk_below HT.out.bel HT.out.ger⟩
    rw [if_neg c8] at h
    have c8a : decide (256 < (v.size : Int)) = false := decide_eq_false c8
    have c8b : decide (256 < v.size) = false := decide_eq_false (by omega)
    clear c8
    obtain ⟨t0, t1, t2⟩ := zc3 (Aside0.mk HT.out.tok)
    obtain ⟨f0, f1, f2⟩ := zf3 (Aside0.mk HT.out.tok)
    have HH := Aside0.mk h
    clear h
    go_upto_region 22 with (fail)
    clear t0 t1 t2 f0 f1 f2
    replace HT := Aside0.mk ((HT.out.put0 (.int .i64 2)).put1 (.string v))
    generalize World.setCell (World.setCell _ _ _) _ _ = V3 at HT ⊢
    have h := HH.out
    clear HH
    simp only [Option.some.injEq, Prod.mk.injEq] at h
    obtain ⟨rfl, rfl, rfl, rfl, rfl, rfl⟩ := h
    obtain ⟨t0, t1, t2⟩ := zc3 (Aside0.mk HT.out.tok)
    obtain ⟨x0, x1, x2⟩ := zc3 (Aside0.mk HT.out.res)
    obtain ⟨f0, f1, f2⟩ := zf3 (Aside0.mk HT.out.res)
    go_wp2
    exact bodyPost_ret (results_list (rs := [.cell 4 84, .tmp 5, .tmp 6, .tmp 7]) rfl (by simp) (.cell gr 84 #[.int .i64 2, .string v, .int .i64 a1] (0, 0) _ rfl (tk_put HT.out.res) hu84 rfl (by kernel_rfl) (.tmp (.tmp (.tmp .nil))))) rfl ⟨rfl, tk_below HT.out.bel HT.out.ger⟩
  rw [if_neg c34] at h
  have c34a : (bt a0 a1 == 34) = false := beq_eq_false_iff_ne.mpr c34
  clear c34
  replace h := Option.bind_eq_some_iff.mp h
  obtain ⟨m, e6, h⟩ := h
  have E6 := Aside0.mk e6
  have HH := Aside0.mk h
  clear h e6
  go_wp2_with fail
  refine (lexer_mark.calls k a0 a1 m w3 E6.out).mono ?_
  rintro e w4 ⟨rfl, hb⟩
  replace HT := Aside0.mk (HT.out.below hb)
  clear hb
  clear c36a c34a
  have h := HH.out
  clear HH
  by_cases c9 : m.toList = ([] : List UInt8)
  · rw [if_pos c9] at h
    have c9a : (m.toList == ([] : List UInt8)) = true := beq_iff_eq.mpr c9
    have c9b : (m.toList != ([] : List UInt8)) = false := bne_eq_false_iff_eq.mpr c9
    clear c9
    simp only [Option.some.injEq, Prod.mk.injEq] at h
    obtain ⟨rfl, rfl, rfl, rfl, rfl, rfl⟩ := h
    obtain ⟨t0, t1, t2⟩ := zc3 (Aside0.mk HT.out.tok)
    obtain ⟨x0, x1, x2⟩ := zc3 (Aside0.mk HT.out.res)
    obtain ⟨f0, f1, f2⟩ := zf3 (Aside0.mk HT.out.res)
    go_wp2
    exact bodyPost_ret (results_list (rs := [.cell 4 84, .tmp 5, .tmp 6, .tmp 7]) rfl (by simp) (.cell gr 84 #[.int .i64 0, .string (⟨#[]⟩ : ByteArray), .int .i64 a1] (0, 0) _ rfl (tk_put HT.out.res) hu84 rfl (by kernel_rfl) (.tmp (.tmp (.tmp .nil))))) rfl ⟨rfl, tk_below HT.out.bel HT.out.ger⟩
  rw [if_neg c9] at h
  have c9a : (m.toList == ([] : List UInt8)) = false := beq_eq_false_iff_ne.mpr c9
  have c9b : (m.toList != ([] : List UInt8)) = true := bne_iff_ne.mpr c9
  clear c9
  obtain ⟨t0, t1, t2⟩ := zc3 (Aside0.mk HT.out.tok)
  obtain ⟨f0, f1, f2⟩ := zf3 (Aside0.mk HT.out.tok)
  have HH := Aside0.mk h
  clear h
  go_upto_region 26 with (fail)
  clear t0 t1 t2 f0 f1 f2
  replace HT := Aside0.mk ((HT.out.put0 (.int .i64 4)).put1 (.string m))
  generalize World.setCell (World.setCell _ _ _) _ _ = V3 at HT ⊢
  have h := HH.out
  clear HH
  simp only [Option.some.injEq, Prod.mk.injEq] at h
  obtain ⟨rfl, rfl, rfl, rfl, rfl, rfl⟩ := h
  obtain ⟨t0, t1, t2⟩ := zc3 (Aside0.mk HT.out.tok)
  obtain ⟨x0, x1, x2⟩ := zc3 (Aside0.mk HT.out.res)
  obtain ⟨f0, f1, f2⟩ := zf3 (Aside0.mk HT.out.res)
  go_wp2
  exact bodyPost_ret (results_list (rs := [.cell 4 84, .tmp 5, .tmp 6, .tmp 7]) rfl (by simp) (.cell gr 84 #[.int .i64 4, .string m, .int .i64 a1] (0, 0) _ rfl (tk_put HT.out.res) hu84 rfl (by kernel_rfl) (.tmp (.tmp (.tmp .nil))))) rfl ⟨rfl, tk_below HT.out.bel HT.out.ger⟩
def lexer_Scan.l0 : Nat → ByteArray → List (S84) → Int → Option ((List (S84)) × Int × Int)
  | 0, _, _, _ => none
  | k + 1, x0, x5, x6 => if x6 < (x0.size : Int) then ((lexer_token.f k x0 x6).bind fun bt177 => (if bt177.2.2.2.2.1 = 0 then (if x5.length < 4398046511104 then ((lexer_skip.f k x0 bt177.2.2.2.1).bind fun t187 => (lexer_Scan.l0 k x0 (x5 ++ [(⟨bt177.1, bt177.2.1, bt177.2.2.1⟩ : S84)]) t187)) else (none)) else (some (([] : List (S84)), bt177.2.2.2.2.1, bt177.2.2.2.2.2)))) else (if x5.length < 4398046511104 then (some ((x5 ++ [(⟨0, (⟨#[]⟩ : ByteArray), (x0.size : Int)⟩ : S84)]), 0, 0)) else (none))
def lexer_Scan.f (k : Nat) (a0 : ByteArray) : Option ((List (S84)) × Int × Int) := if (a0.size : Int) > 16000 then (some (([] : List (S84)), 3, 0)) else ((lexer_skip.f k a0 0).bind fun t173 => (lexer_Scan.l0 k a0 ([] : List (S84)) t173))
theorem lexer_Scan.mono_l : ∀ k, (∀ y0 y1 y2, LeO (lexer_Scan.l0 k y0 y1 y2) (lexer_Scan.l0 (k + 1) y0 y1 y2))
  | 0 => fun _ _ _ r h => by simp [lexer_Scan.l0] at h
  | k + 1 => by
    have ih0 := lexer_Scan.mono_l k
    · intro y0 y1 y2
      unfold lexer_Scan.l0
      repeat' first
      | (with_reducible exact ih0 _ _ _)
      | (with_reducible exact lexer_skip.mono _ _ _)
      | (with_reducible exact lexer_token.mono _ _ _)
      | (with_reducible exact LeO.refl _)
      | (with_reducible exact LeO.none _)
      | (with_reducible refine LeO.ite ?_ ?_)
      | (with_reducible refine LeO.bind ?_ (fun _ => ?_))
theorem lexer_Scan.mono : ∀ a0 k, LeO (lexer_Scan.f k a0) (lexer_Scan.f (k + 1) a0) := by
  intro a0 k
  have ih0 := lexer_Scan.mono_l k
  unfold lexer_Scan.f
  repeat' first
      | (with_reducible exact ih0 _ _ _)
      | (with_reducible exact lexer_skip.mono _ _ _)
      | (with_reducible exact lexer_token.mono _ _ _)
      | (with_reducible exact LeO.refl _)
      | (with_reducible exact LeO.none _)
      | (with_reducible refine LeO.ite ?_ ?_)
      | (with_reducible refine LeO.bind ?_ (fun _ => ?_))
theorem lexer_Scan.calls (k : Nat) (a0 : ByteArray) (r1 : List (S84)) (r2 : Int) (r3 : Int) (w : World) (h : lexer_Scan.f k a0 = some (r1, r2, r3)) :
 Calls Tryz.prog 68 #[.string a0] w fun e w' => ∃ v0_ : Value, e = .returned (.tuple #[v0_, .int .i64 r2, .int .i64 r3]) ∧ Kd.R k84 84 w' w.heap.size (fun _ => True) v0_ r1 ∧ Below w.heap.size w w' := by
 have hu84 := Tryz.underlying84
 have HB := Aside0.mk (Below.refl w.heap.size w)
 unfold lexer_Scan.f at h; have H := h
 clear h
 by_cases c2 : (a0.size : Int) > 16000
 · rw [if_pos c2] at H
   have c2b0 : decide (16000 < (a0.size : Int)) = true := decide_eq_true c2
   have c2b1 : decide (16000 < a0.size) = true := decide_eq_true (by omega)
   clear c2
   simp only [Option.some.injEq, Prod.mk.injEq] at H
   obtain ⟨rfl, rfl, rfl⟩ := H
   go_enter Tryz.func68, Tryz.ntmps68
   go_wp2
   go_ret3
   exact ⟨_, by first | rfl | (simp [errW_none, errW_some] <;> rfl) | (simp [*, errW_none, errW_some] <;> rfl), by first | exact Kd.R_nil _ _ _ _ _ | exact Kd.N_nil _ _ _ _ _ | exact Kd.V_nil _ _ _ _ _ | exact Kd.Q_nil _ _ _ _ _ | exact Kd.S_nil _ _ _ _ _, by repeat (first | (with_reducible first | exact HB.out | apply below_alloc | apply pw_below_drewN | apply below_drew1) | exact HB.out)⟩
 rw [if_neg c2] at H; have c2b0 : decide (16000 < (a0.size : Int)) = false := decide_eq_false c2
 have c2b1 : decide (16000 < a0.size) = false := decide_eq_false (by omega)
 clear c2
 replace H := Option.bind_eq_some_iff.mp H
 obtain ⟨t173, A30, H⟩ := H
 replace H : (lexer_Scan.l0 k a0 ([] : List (S84)) t173) = some (r1, r2, r3) := H
 have A3 := Aside0.mk A30; clear A30
 have H' := Aside0.mk H
 clear H
 go_enter Tryz.func68, Tryz.ntmps68
 go_wp2_with (first | ((with_reducible refine gate_callee (f := 101) rfl ?_); refine zgl 15 Tryz.func101 #[.string a0, .int .i64 0] ?_; (with_reducible refine (lexer_skip.calls k a0 0 t173 _ A3.out).mono ?_); rintro e w' ⟨rfl, ⟨nd, rfl⟩⟩; refine ⟨_, rfl, ?_⟩))
 go_loopg [5, 6] k (fun kq v5 v6 w' => ∃ (x5_1 : List (S84)) (x6_1 : Int), v6 = .int .i64 x6_1 ∧ Aside0 (lexer_Scan.l0 kq a0 x5_1 x6_1 = some (r1, r2, r3)) ∧ Aside0 (kq ≤ k) ∧ Aside0 (Kd.R k84 84 w' w.heap.size (fun _ => True) v5 x5_1) ∧ Aside0 (Below w.heap.size w w'))
 case atStart => exact ⟨(([] : List (S84))), (t173), zI, H', ⟨Nat.le_refl _⟩, ⟨by first | exact Kd.R_nil _ _ _ _ _ | exact Kd.N_nil _ _ _ _ _ | exact Kd.V_nil _ _ _ _ _ | exact Kd.Q_nil _ _ _ _ _ | exact Kd.S_nil _ _ _ _ _⟩, ⟨zB HB⟩⟩
 case round =>
  clear H'
  (try clear c2b0); (try clear c2b1)
  obtain ⟨x5_1, x6_1, rfl, HA, HK1, HO_5, HB⟩ := hrel
  rcases gk with _ | k1
  · exact absurd HA.out (by simp [lexer_Scan.l0])
  have H := HA.out
  clear HA
  simp only [lexer_Scan.l0] at H
  by_cases c4 : x6_1 < (a0.size : Int)
  · rw [if_pos c4] at H
    have c4b0 : decide (x6_1 < (a0.size : Int)) = true := decide_eq_true c4; clear c4
    replace H := Option.bind_eq_some_iff.mp H
    obtain ⟨⟨t177, t178, t179, t180, t181, t182⟩, A50, H⟩ := H
    replace H : (if t181 = 0 then (if x5_1.length < 4398046511104 then ((lexer_skip.f k1 a0 t180).bind fun t187 => (lexer_Scan.l0 k1 a0 (x5_1 ++ [(⟨t177, t178, t179⟩ : S84)]) t187)) else (none)) else (some (([] : List (S84)), t181, t182))) = some (r1, r2, r3) := H
    have A5 := Aside0.mk A50; clear A50
    by_cases c6 : t181 = 0
    · rw [if_pos c6] at H
      have c6b0 : (t181 == 0) = true := beq_iff_eq.mpr c6; have c6b1 : (t181 != 0) = false := bne_eq_false_iff_eq.mpr c6; clear c6
      by_cases c7 : x5_1.length < 4398046511104
      rotate_left
      · rw [if_neg c7] at H
        exact absurd H (by simp)
      rw [if_pos c7] at H; have LMc7 := Aside0.mk c7; clear c7
      obtain ⟨y184, hy184⟩ : ∃ y_ : List (S84), y_ = (x5_1 ++ [(⟨t177, t178, t179⟩ : S84)]) := ⟨_, rfl⟩
      rw [← hy184] at H; try dsimp only [Option.bind_some] at H
      have Ny184 := Aside0.mk hy184; clear hy184
      replace H := Option.bind_eq_some_iff.mp H
      obtain ⟨t187, A80, H⟩ := H
      replace H : (lexer_Scan.l0 k1 a0 y184 t187) = some (r1, r2, r3) := H
      have A8 := Aside0.mk A80; clear A80
      have H' := Aside0.mk H
      clear H
      go_wp2_with (first | ((with_reducible refine gate_callee (f := 102) rfl ?_); refine zgl 26 Tryz.func102 #[.string a0, .int .i64 x6_1] ?_; (with_reducible refine (lexer_token.calls k1 a0 x6_1 t177 t178 t179 t180 t181 t182 _ A5.out).mono ?_); rintro e w9 ⟨rfl, hb⟩; refine ⟨_, rfl, ?_⟩; replace HO_5 := Aside0.mk (Kd.R_below (zR HO_5) hb); replace HB := Aside0.mk (below_step (zB HB) hb); (try clear hb)) | ((with_reducible refine gate_dst (N := 7) rfl ?_); refine zx 7 #[.int .i64 0, .string (⟨#[]⟩ : ByteArray), .int .i64 0] 84 ?_; intro gb183 hg w10 hbox hb; replace HO_5 := Aside0.mk (Kd.R_below (Kd.R_elderB (zR HO_5) gb183 (Nat.le_of_eq hg.symm)) hb); have BK183 := Aside0.mk (hbox); have GW183 := zG HB hg; have GE183 := zG HB hg; replace HB := Aside0.mk (below_step (zB HB) hb); clear hb hbox hg; obtain ⟨hcz11_0, hcz11_1, hcz11_2⟩ := zc3 BK183; obtain ⟨hfz11_0, hfz11_1, hfz11_2⟩ := zf3 BK183) | ((with_reducible refine gate_builtin (b := .append) (xs := #[.tmp 35, .tmp 37]) rfl ?_); at_builtin; refine Kd.R_append k84 (w0 := w) w.heap.size rfl (.tmp 35) (.tmp 37) 86 84 (.agg #[(.int .i64 0), (.string ⟨#[]⟩), (.int .i64 0)]) 32 rfl Tryz.underlying86 info84 rfl (by decide) (by omega) u5 x5_1 (⟨t177, t178, t179⟩ : S84) [.int .i64 t177, .string t178, .int .i64 t179] (fun k_ => k_ ≠ gb183) (fun _ => False) rfl (by first | (go_simp; done) | (go_simp; rfl)) ?aP (fun _ hk => hk.elim) ?aF ?aO ?aB ?aS ?aL ?_; (case aP => exact k84_mkM _ _ _ (⟨t177, t178, t179⟩ : S84)); (case aB => exact (zB HB)); (case aF => exact (fun k_ hk => Kd.freshB (g := gb183) (o := .cells #[.int .i64 t177, .string t178, .int .i64 t179] 84 (0, 0)) (by refine zL ?_; refine blk_put (cs := #[.int .i64 t177, .string t178, .int .i64 0]) ?_ 2 _ rfl; refine zL ?_; refine blk_put (cs := #[.int .i64 t177, .string (⟨#[]⟩ : ByteArray), .int .i64 0]) ?_ 1 _ rfl; refine zL ?_; refine blk_put (cs := #[.int .i64 0, .string (⟨#[]⟩ : ByteArray), .int .i64 0]) ?_ 0 _ rfl; refine zL ?_; exact BK183.out) k_ hk)); (case aO => exact (by (with_reducible repeat (first | apply Kd.R_alloc | apply Kd.R_drewN | apply Kd.R_drew)); exact Kd.R_mono (Kd.R_far (p := ⟨gb183, 2, none⟩) (Kd.R_far (p := ⟨gb183, 1, none⟩) (Kd.R_far (p := ⟨gb183, 0, none⟩) (Kd.R_mono HO_5.out (fun k_ hk => (⟨hk, hk.2⟩ : _ ∧ k_ ≠ gb183))) (fun _ hk => hk.2) (.int .i64 t177)) (fun _ hk => hk.2) (.string t178)) (fun _ hk => hk.2) (.int .i64 t179)) (fun _ hk => hk.1.2))); (case aS => exact (below_size (zB HB))); (case aL => have := LMc7.out; omega); intro v185 w12 ho hb hg hat; rw [← Ny184.out] at ho; replace BK183 := Aside0.mk (blk_grown (g := gb183) (o := .cells #[.int .i64 t177, .string t178, .int .i64 t179] 84 (0, 0)) (by refine zL ?_; refine blk_put (cs := #[.int .i64 t177, .string t178, .int .i64 0]) ?_ 2 _ rfl; refine zL ?_; refine blk_put (cs := #[.int .i64 t177, .string (⟨#[]⟩ : ByteArray), .int .i64 0]) ?_ 1 _ rfl; refine zL ?_; refine blk_put (cs := #[.int .i64 0, .string (⟨#[]⟩ : ByteArray), .int .i64 0]) ?_ 0 _ rfl; refine zL ?_; exact BK183.out) hg (Kd.R_away HO_5.out (fun _ hk => hk.2))); replace HB := Aside0.mk (hb); have HO186 := Aside0.mk (ho); clear HO_5; clear ho hb hg hat) | ((with_reducible refine gate_callee (f := 101) rfl ?_); refine zgl 22 Tryz.func101 #[.string a0, .int .i64 t180] ?_; (with_reducible refine (lexer_skip.calls k1 a0 t180 t187 _ A8.out).mono ?_); rintro e w' ⟨rfl, ⟨nd, rfl⟩⟩; refine ⟨_, rfl, ?_⟩))
      go_roundg k1
      case measure => have := HK1.out; omega
      case rel => exact ⟨(y184), (t187), zI, H', ⟨by have := HK1.out; omega⟩, ⟨by (with_reducible repeat (first | apply Kd.R_alloc | apply Kd.R_drewN | apply Kd.R_drew)); exact Kd.R_mono HO186.out (fun _ hk => trivial)⟩, ⟨zB HB⟩⟩
    rw [if_neg c6] at H
    have c6b0 : (t181 == 0) = false := beq_eq_false_iff_ne.mpr c6
    have c6b1 : (t181 != 0) = true := bne_iff_ne.mpr c6
    simp only [Option.some.injEq, Prod.mk.injEq] at H
    obtain ⟨rfl, rfl, rfl⟩ := H
    go_wp2_with (first | ((with_reducible refine gate_callee (f := 102) rfl ?_); refine zgl 26 Tryz.func102 #[.string a0, .int .i64 x6_1] ?_; (with_reducible refine (lexer_token.calls k1 a0 x6_1 t177 t178 t179 t180 t181 t182 _ A5.out).mono ?_); rintro e w13 ⟨rfl, hb⟩; refine ⟨_, rfl, ?_⟩; replace HO_5 := Aside0.mk (Kd.R_below (zR HO_5) hb); replace HB := Aside0.mk (below_step (zB HB) hb); (try clear hb)) | ((with_reducible refine gate_dst (N := 7) rfl ?_); refine zx 7 #[.int .i64 0, .string (⟨#[]⟩ : ByteArray), .int .i64 0] 84 ?_; intro gb183 hg w14 hbox hb; replace HO_5 := Aside0.mk (Kd.R_below (Kd.R_elderB (zR HO_5) gb183 (Nat.le_of_eq hg.symm)) hb); have BK183 := Aside0.mk (hbox); have GW183 := zG HB hg; have GE183 := zG HB hg; replace HB := Aside0.mk (below_step (zB HB) hb); clear hb hbox hg; obtain ⟨hcz15_0, hcz15_1, hcz15_2⟩ := zc3 BK183; obtain ⟨hfz15_0, hfz15_1, hfz15_2⟩ := zf3 BK183))
    go_ret3
    exact ⟨_, by first | rfl | (simp [errW_none, errW_some] <;> rfl) | (simp [*, errW_none, errW_some] <;> rfl), by first | exact Kd.R_nil _ _ _ _ _ | exact Kd.N_nil _ _ _ _ _ | exact Kd.V_nil _ _ _ _ _ | exact Kd.Q_nil _ _ _ _ _ | exact Kd.S_nil _ _ _ _ _, by repeat (first | (with_reducible first | exact HB.out | apply below_alloc | apply pw_below_drewN | apply below_drew1 | refine below_set ?_ GE183.out) | exact HB.out)⟩
  rw [if_neg c4] at H
  have c4b0 : decide (x6_1 < (a0.size : Int)) = false := decide_eq_false c4; clear c4
  by_cases c16 : x5_1.length < 4398046511104
  · rw [if_pos c16] at H
    have LMc16 := Aside0.mk c16; clear c16
    obtain ⟨y174, hy174⟩ : ∃ y_ : List (S84), y_ = (x5_1 ++ [(⟨0, (⟨#[]⟩ : ByteArray), (a0.size : Int)⟩ : S84)]) := ⟨_, rfl⟩
    rw [← hy174] at H; try dsimp only [Option.bind_some] at H
    have Ny174 := Aside0.mk hy174; clear hy174
    simp only [Option.some.injEq, Prod.mk.injEq] at H
    obtain ⟨rfl, rfl, rfl⟩ := H
    go_wp2_with (first | ((with_reducible refine gate_builtin (b := .append) (xs := #[.tmp 40, .tmp 44]) rfl ?_); at_builtin; refine Kd.R_append k84 (w0 := w) w.heap.size rfl (.tmp 40) (.tmp 44) 86 84 (.agg #[(.int .i64 0), (.string ⟨#[]⟩), (.int .i64 0)]) 32 rfl Tryz.underlying86 info84 rfl (by decide) (by omega) u5 x5_1 (⟨0, (⟨#[]⟩ : ByteArray), (a0.size : Int)⟩ : S84) [.int .i64 0, .string (⟨#[]⟩ : ByteArray), .int .i64 (a0.size : Int)] (fun _ => True) (fun _ => False) rfl rfl ?aP (fun _ hk => hk.elim) ?aF ?aO ?aB ?aS ?aL ?_; (case aP => exact k84_mkM _ _ _ (⟨0, (⟨#[]⟩ : ByteArray), (a0.size : Int)⟩ : S84)); (case aB => exact (zB HB)); (case aF => exact (fun _ _ => trivial)); (case aO => exact (zR HO_5)); (case aS => exact (below_size (zB HB))); (case aL => have := LMc16.out; omega); intro v175 w17 ho hb hg hat; rw [← Ny174.out] at ho; replace HB := Aside0.mk (hb); have HO176 := Aside0.mk (ho); clear HO_5; clear ho hb hg hat))
    go_ret3
    exact ⟨_, by first | rfl | (simp [errW_none, errW_some] <;> rfl) | (simp [*, errW_none, errW_some] <;> rfl), by (with_reducible repeat (first | apply Kd.R_alloc | apply Kd.R_drewN | apply Kd.R_drew)); exact HO176.out, by repeat (first | (with_reducible first | exact HB.out | apply below_alloc | apply pw_below_drewN | apply below_drew1) | exact HB.out)⟩
  rw [if_neg c16] at H
  exact absurd H (by simp)
end Go.Proofs.YtnphnhkinjppjaaGreatDoor.Q
end

section
set_option maxHeartbeats 8000000
set_option maxRecDepth 100000
namespace Go.Proofs.YtnphnhkinjppjaaGreatDoor.Q
open Go.RowKit Go.Proofs.YtnphnhkinjppjaaGreatDoorW.PrintWords Go.Proofs.YtnphnhkinjppjaaGreatDoorW.PrintLast Go.Proofs.YtnphnhkinjppjaaGreatDoorW.PrintMore
theorem newcur_bad (k : Nat) (s : ByteArray) (L : List (S84)) (e0 at0 : Int) (w : World) (h : lexer_Scan.f k s = some (L, e0, at0)) (he : e0 ≠ 0) :
    Calls Tryz.prog 47 #[.string s] w fun e w' => e = .returned (.tuple #[.pointer none, .int .i64 e0, .int .i64 at0]) ∧ Below w.heap.size w w' := by
  have H := Aside0.mk h
  have c1 : (e0 != 0) = true := bne_iff_ne.mpr he
  clear h he
  go_enter Tryz.func47, Tryz.ntmps47
  go_wp2_with fail
  refine (lexer_Scan.calls k s L e0 at0 w H.out).mono ?_
  rintro e w2 ⟨v, rfl, ho, hb⟩
  have HB := Aside0.mk hb
  clear ho hb
  go_wp2
  go_ret3
  exact ⟨rfl, HB.out⟩
theorem newcur_ok (k : Nat) (s : ByteArray) (L : List (S84)) (at0 : Int) (w : World) (h : lexer_Scan.f k s = some (L, 0, at0)) (hp : L ≠ []) (hL : L.length ≤ 1000000) :
    Calls Tryz.prog 47 #[.string s] w fun e w' => ∃ (w1 : World) (g : Nat), e = .returned (.tuple #[.pointer (some ⟨g, 0, none⟩), .int .i64 0, .int .i64 0]) ∧ IsCur w1 w' g L 0 ∧ Below w.heap.size w w1 ∧ Below w1.heap.size w1 w' := by
  have H := Aside0.mk h
  have HP := Aside0.mk hp
  have HL := Aside0.mk hL
  clear h hp hL
  go_enter Tryz.func47, Tryz.ntmps47
  go_wp2_with fail
  refine (lexer_Scan.calls k s L 0 at0 w H.out).mono ?_
  rintro e w2 ⟨v, rfl, ho, hb⟩
  obtain ⟨A1, c1, hv⟩ := Kd.R_slice ho
  subst hv
  have HC := Aside0.mk (Kd.R_reads' ho).2.2
  have HB := Aside0.mk hb
  clear ho hb
  go_wp2_with fail
  refine (clone_walk w2 A1 c1 L HC.out HP.out HL.out).mono ?_
  rintro e w3 ⟨v, rfl, ho, hb⟩
  obtain ⟨A2, c2, hv⟩ := Kd.R_slice ho
  subst hv
  have HC2 := Aside0.mk (Kd.R_reads' ho).2.2
  have HB2 := Aside0.mk (HB.out.trans (hb.mono HB.out.size))
  clear ho hb HC HB
  go_wp2
  go_ret3
  exact ⟨w3, w3.heap.size, rfl, ⟨A2, c2, heap_alloc_new w3 _, Nat.le_refl _, HC2.out⟩, HB2.out, below_alloc (Below.refl _ _) _⟩
def asset_Parse.l0 : Nat → List (S84) → List S36 → Int → Int → Int → Option (List S36 × Int × Int)
  | 0, _, _, _, _, _ => none
  | k + 1, L, out, i, e, a =>
    if e = 0 then
      if (tokAt L i).f0 = 0 then some (out, e, a)
      else (asset_statement.f k L i e a).bind fun r => if out.length < 1000000 then asset_Parse.l0 k L (out ++ [r.1]) r.2.1 r.2.2.1 r.2.2.2 else none
    else some (out, e, a)
def asset_Parse.f (k : Nat) (s : ByteArray) : Option (List S36 × Int × Int) :=
  (lexer_Scan.f k s).bind fun r =>
    if r.2.1 = 0 then
      (if 0 < r.1.length then (if r.1.length ≤ 1000000 then
        (asset_Parse.l0 k r.1 [] 0 0 0).bind fun q => if q.2.1 = 0 then (asset_Check.f k q.1).bind fun c => (if c = 0 then some (q.1, 0, 0) else some ([], c, 0)) else some ([], q.2.1, q.2.2)
      else none) else none)
    else some ([], r.2.1, r.2.2)
theorem asset_parser_number.mono : ∀ (L : List (S84)) (i e a : Int) (k : Nat), LeO (asset_parser_number.f k L i e a) (asset_parser_number.f (k + 1) L i e a) := fun L i e a k => LeO.bind (lexer_Number.mono _ _) fun r => LeO.refl _
theorem asset_parser_choice.mono : ∀ (L : List (S84)) (i e a : Int) (l : List ByteArray) (k : Nat), LeO (asset_parser_choice.f k L i e a l) (asset_parser_choice.f (k + 1) L i e a l) := fun L i e a l k => LeO.bind (slices_Index_string.mono _ _ _) fun r => LeO.refl _
theorem optOne.mono (k : Nat) (L : List (S84)) (A : S36) (n i e a : Int) : LeO (optOne k L A n i e a) (optOne (k + 1) L A n i e a) := by
  unfold optOne
  exact LeO.ite (LeO.bind (asset_parser_choice.mono _ _ _ _ _ _) fun r => LeO.refl _) (LeO.ite (LeO.bind (asset_parser_choice.mono _ _ _ _ _ _) fun r => LeO.refl _) (LeO.ite (LeO.bind (asset_parser_number.mono _ _ _ _ _) fun r => LeO.refl _) (LeO.ite (LeO.bind (asset_parser_number.mono _ _ _ _ _) fun r => LeO.refl _) (LeO.ite (LeO.refl _) (LeO.ite (LeO.bind (asset_parser_number.mono _ _ _ _ _) fun r => LeO.refl _) (LeO.bind (asset_parser_choice.mono _ _ _ _ _ _) fun r => LeO.bind (asset_parser_number.mono _ _ _ _ _) fun r => LeO.bind (asset_parser_choice.mono _ _ _ _ _ _) fun r => LeO.refl _))))))
theorem optLoop.mono : ∀ (k : Nat) (L : List (S84)) (least : Int) (A : S36) (i e a : Int), LeO (optLoop k L least A i e a) (optLoop (k + 1) L least A i e a) := by
  intro k
  induction k with
  | zero => intro L least A i e a; exact LeO.none _
  | succ k ih =>
    intro L least A i e a
    rw [optLoop, optLoop]
    exact LeO.ite (LeO.ite (LeO.refl _) (LeO.bind (slices_Index_string.mono _ _ _) fun n => LeO.ite (LeO.ite (LeO.refl _) (LeO.ite (LeO.refl _) (LeO.ite (LeO.bind (optOne.mono _ _ _ _ _ _ _) fun r => ih _ _ _ _ _ _) (LeO.refl _)))) (LeO.refl _))) (LeO.refl _)
theorem preOne.mono (k : Nat) (t : S84) (e a : Int) : LeO (preOne k t e a) (preOne (k + 1) t e a) := LeO.ite (LeO.bind (address_ParsePrefix.mono _ _) fun r => LeO.refl _) (LeO.refl _)
theorem asset_statement.mono (k : Nat) (L : List (S84)) (i e a : Int) : LeO (asset_statement.f k L i e a) (asset_statement.f (k + 1) L i e a) := LeO.bind (preOne.mono _ _ _ _) fun x => optLoop.mono _ _ _ _ _ _ _
theorem asset_Parse.mono_l : ∀ (k : Nat) (L : List (S84)) (out : List S36) (i e a : Int), LeO (asset_Parse.l0 k L out i e a) (asset_Parse.l0 (k + 1) L out i e a) := by
  intro k
  induction k with
  | zero => intro L out i e a; exact LeO.none _
  | succ k ih =>
    intro L out i e a
    rw [asset_Parse.l0, asset_Parse.l0]
    exact LeO.ite (LeO.ite (LeO.refl _) (LeO.bind (asset_statement.mono _ _ _ _ _) fun r => LeO.ite (ih _ _ _ _ _) (LeO.refl _))) (LeO.refl _)
theorem asset_Parse.mono : ∀ s k, LeO (asset_Parse.f k s) (asset_Parse.f (k + 1) s) := fun s k => LeO.bind (lexer_Scan.mono _ _) fun r => LeO.ite (LeO.ite (LeO.ite (LeO.bind (asset_Parse.mono_l _ _ _ _ _ _) fun q => LeO.ite (LeO.bind (asset_Check.mono _ _) fun c => LeO.refl _) (LeO.refl _)) (LeO.refl _)) (LeO.refl _)) (LeO.refl _)
theorem PosIn.stmt {k : Nat} {L : List (S84)} {i e a : Int} {A : S36} {i' e' a' : Int} (h : PosIn L i) (hf : asset_statement.f k L i e a = some (A, i', e', a')) : PosIn L i' := by
  have hone : ∀ (k : Nat) (A : S36) (n i e a : Int) (r : S36 × Int × Int × Int), PosIn L i → optOne k L A n i e a = some r → PosIn L r.2.1 := by
    intro k A n i e a r hi hr
    unfold optOne at hr
    repeat' split at hr
    all_goals first
      | (obtain ⟨⟨m, x⟩, h1, h2⟩ := Option.bind_eq_some_iff.1 hr
         have h2 := Option.some.inj h2
         subst h2
         first | exact hi.choice h1 | exact hi.number h1)
      | (have h2 := Option.some.inj hr; subst h2; exact hi)
      | (obtain ⟨⟨m1, x1⟩, h1, h2⟩ := Option.bind_eq_some_iff.1 hr
         obtain ⟨⟨m2, x2⟩, h3, h4⟩ := Option.bind_eq_some_iff.1 h2
         obtain ⟨⟨m3, x3⟩, h5, h6⟩ := Option.bind_eq_some_iff.1 h4
         first
           | (have h6 := Option.some.inj h6
              subst h6
              exact ((hi.choice h1).number h3).choice h5)
           | cases h6
           | (split at h6
              · have h6 := Option.some.inj h6
                subst h6
                exact ((hi.choice h1).number h3).choice h5
              · cases h6))
  have hloop : ∀ (k : Nat) (least : Int) (A : S36) (i e a : Int) (r : S36 × Int × Int × Int), PosIn L i → optLoop k L least A i e a = some r → PosIn L r.2.1 := by
    intro k
    induction k with
    | zero => intro least A i e a r _ hr; simp [optLoop] at hr
    | succ k ih =>
      intro least A i e a r hi hr
      rw [optLoop] at hr
      split at hr
      · split at hr
        · have hr := Option.some.inj hr
          subst hr
          show PosIn L (isNx L i 4 ⟨#[59]⟩)
          unfold isNx
          split <;> first | exact hi.nxt | exact hi
        · obtain ⟨n, hn, hr⟩ := Option.bind_eq_some_iff.1 hr
          split at hr
          · split at hr
            · have hr := Option.some.inj hr; subst hr; exact hi.word
            · split at hr
              · have hr := Option.some.inj hr; subst hr; exact hi.word
              · split at hr
                · obtain ⟨q, hq, hr⟩ := Option.bind_eq_some_iff.1 hr
                  exact ih _ _ _ _ _ _ (hone _ _ _ _ _ _ _ hi.word hq) hr
                · cases hr
          · have hr := Option.some.inj hr; subst hr; exact hi.word
      · have hr := Option.some.inj hr; subst hr; exact hi
  unfold asset_statement.f at hf
  obtain ⟨x, hx, hf⟩ := Option.bind_eq_some_iff.1 hf
  refine hloop _ _ _ _ _ _ _ ?_ hf
  have h1 : PosIn L (hostOne L i e a).1 := by unfold hostOne; split <;> exact h.word
  exact (h1.word).word
structure ParI (k gg : Nat) (L : List (S84)) (out : List S36) (i e a : Int) (q : List S36 × Int × Int) : Prop where
  val : asset_Parse.l0 gg L out i e a = some q
  pos : PosIn L i
structure ParW (w1 wr : World) (p c : Nat) (L : List (S84)) (out : List S36) (v : Value) (i e a : Int) : Prop where
  par : IsPar w1 wr p c L i e a
  bel : Below w1.heap.size w1 wr
  out : Kd.R k36 36 wr w1.heap.size (fun k => k ≠ p ∧ k ≠ c) v out
theorem ParW.below {w1 wr w2 : World} {p c : Nat} {L : List (S84)} {out : List S36} {v : Value} {i e a : Int} (h : ParW w1 wr p c L out v i e a) (hb : Below wr.heap.size wr w2) : ParW w1 w2 p c L out v i e a :=
  ⟨h.par.below hb, below_then h.bel h.bel.size hb, Kd.R_below h.out hb⟩
theorem ParI.cases {k gg : Nat} {L : List (S84)} {out : List S36} {i e a : Int} {q : List S36 × Int × Int} (h : ParI k gg L out i e a q) : ∃ g, gg = g + 1 ∧ ((¬ e = 0 ∧ (out, e, a) = q) ∨ (e = 0 ∧ (((tokAt L i).f0 = 0 ∧ (out, e, a) = q) ∨ (¬ (tokAt L i).f0 = 0 ∧ out.length < 1000000 ∧ ∃ A i' e' a', asset_statement.f g L i e a = some (A, i', e', a') ∧ ParI k g L (out ++ [A]) i' e' a' q)))) := by
  have hv := h.val
  cases gg with
  | zero => simp [asset_Parse.l0] at hv
  | succ g =>
    refine ⟨g, rfl, ?_⟩
    rw [asset_Parse.l0] at hv
    split at hv
    · rename_i h0
      refine .inr ⟨h0, ?_⟩
      split at hv
      · rename_i h1
        exact .inl ⟨h1, Option.some.inj hv⟩
      · rename_i h1
        obtain ⟨⟨A, i', e', a'⟩, hs, hv⟩ := Option.bind_eq_some_iff.1 hv
        split at hv
        · rename_i h2
          exact .inr ⟨h1, h2, A, i', e', a', hs, hv, h.pos.stmt hs⟩
        · cases hv
    · rename_i h0
      exact .inl ⟨h0, Option.some.inj hv⟩
theorem ParW.append {w1 w2 w3 : World} {p c : Nat} {L : List (S84)} {out : List S36} {v v1 : Value} {i e a : Int} {A : S36} (hp : IsPar w1 w2 p c L i e a) (hb : Below w1.heap.size w1 w2) (ho : Kd.R k36 36 w2 w1.heap.size (fun k => k ≠ p ∧ k ≠ c) v out)
    (hn : Kd.R k36 36 w3 w1.heap.size (fun k => k ≠ p ∧ k ≠ c) v1 (out ++ [A])) (hb3 : Below w1.heap.size w1 w3) (hg : w2.grownBy w3 v.ownBlock) : ParW w1 w3 p c L (out ++ [A]) v1 i e a := by
  have hne : ∀ (b : Nat) (cs : Array Value) (t : TypeId), w2.heap[b]? = some (.cells cs t (0, 0)) → 36 ≠ t → some b ≠ v.ownBlock := fun b cs t hb ht => Kd.R_ne ho hb ht
  obtain ⟨h1, h2, h3⟩ := hp
  obtain ⟨A0, c0, h4, h5, h6⟩ := h3
  exact ⟨⟨blk_grown h1 hg (hne _ _ _ h1 (by decide)), h2, A0, c0, blk_grown h4 hg (hne _ _ _ h4 (by decide)), h5, h6⟩, hb3, hn⟩
theorem infoA : (Tryz.prog.info? 36).map (fun i => (i.zero, i.size, i.bytes)) = some (some (.agg (assetCells z36 (.slice none 0 0))), 12, 120) := by kernel_rfl
theorem parse_ok (k : Nat) (s : ByteArray) (L : List (S84)) (at0 : Int) (q : List S36 × Int × Int) (r1 : List S36) (r2 r3 : Int) (w : World) (hs : lexer_Scan.f k s = some (L, 0, at0)) (h0 : 0 < L.length) (h1 : L.length ≤ 1000000) (hq : asset_Parse.l0 k L [] 0 0 0 = some q)
    (hr : (if q.2.1 = 0 then (asset_Check.f k q.1).bind fun c => (if c = 0 then some (q.1, (0 : Int), (0 : Int)) else some ([], c, 0)) else some ([], q.2.1, q.2.2)) = some (r1, r2, r3)) (hW : WOK w) :
    Calls Tryz.prog 21 #[.string s] w fun e w' => ∃ v0_ : Value, e = .returned (.tuple #[v0_, .int .i64 r2, .int .i64 r3]) ∧ Kd.R k36 36 w' w.heap.size (fun _ => True) v0_ r1 ∧ Below w.heap.size w w' := by
  have hu := Tryz.underlying36
  have hu2 := Tryz.underlying82
  have hfd : ∀ (t : S84) (w' : World), (Instr.field 84 (tokV t) 0).run Tryz.prog w' = .ok (.int .i64 t.f0) w' := fun _ _ => by kernel_rfl
  have HS := Aside0.mk hs
  have HL : Aside0 (L ≠ [] ∧ L.length ≤ 1000000) := ⟨List.length_pos_iff.1 h0, h1⟩
  have HQ : Aside0 (ParI k k L [] 0 0 0 q) := ⟨⟨hq, by omega, by omega, h1⟩⟩
  have HR := Aside0.mk hr
  have HW := Aside0.mk hW
  clear hs h0 h1 hq hr hW
  go_enter Tryz.func21, Tryz.ntmps21
  go_wp2_with fail
  refine (newcur_ok k s L at0 w HS.out HL.out.1 HL.out.2).mono ?_
  rintro e w2 ⟨w1, c, rfl, hc, hb1, hb2⟩
  have HB1 := Aside0.mk hb1
  have HW1 := Aside0.mk (HW.out.below hb1)
  have HP : Aside0 (IsPar w1 (w2.alloc (.cells #[.pointer (some ⟨c, 0, none⟩), .int .i64 0, .int .i64 0] 82)) w2.heap.size c L 0 0 0) := ⟨heap_alloc_new _ _, hb2.size, hc.alloc _⟩
  have HB2 := Aside0.mk (below_alloc hb2 (.cells #[.pointer (some ⟨c, 0, none⟩), .int .i64 0, .int .i64 0] 82))
  clear hc hb1 hb2
  go_upto_region 6 with (fail)
  obtain ⟨p, hpp⟩ : ∃ x, w2.heap.size = x := ⟨_, rfl⟩
  rw [hpp] at HP
  simp only [hpp]
  clear hpp
  generalize w2.alloc (.cells #[.pointer (some ⟨c, 0, none⟩), .int .i64 0, .int .i64 0] 82) = W3 at HP HB2 ⊢
  have HPW : Aside0 (ParW w1 W3 p c L [] (.slice none 0 0) 0 0 0) := ⟨HP.out, HB2.out, Kd.R_nil _ _ _ _ _⟩
  clear HP HB2
  go_loopg [9] k (fun gg v9 wr => ∃ (out : List S36) (Ao : Option Addr) (co : Nat) (i e a : Int), v9 = .slice Ao out.length co ∧ Aside0 (ParI k gg L out i e a q) ∧ Aside0 (ParW w1 wr p c L out (.slice Ao out.length co) i e a))
  case atStart => exact ⟨[], none, 0, 0, 0, 0, rfl, HQ, HPW⟩
  case round =>
    clear HQ HPW
    obtain ⟨out, Ao, co, i, e, a, rfl, HI, HPW⟩ := hrel
    obtain ⟨g, hg, hcs⟩ := HI.out.cases
    have HCS := Aside0.mk hcs
    have HPOS := Aside0.mk HI.out.pos
    clear hcs HI
    rcases HCS.out with ⟨he, hqq⟩ | ⟨he, hcs⟩
    · have HE : Aside0 ((([] : List S36), e, a) = (r1, r2, r3)) := ⟨by have h := HR.out; rw [← hqq] at h; exact Option.some.inj ((if_neg he).symm.trans h)⟩
      have b1 : (e == 0) = false := beq_eq_false_iff_ne.mpr he
      have b2 : (e != 0) = true := bne_iff_ne.mpr he
      clear he hqq hg HCS
      obtain ⟨x0, x1, x2⟩ := HPW.out.par.cells
      go_wp2
      go_quiet (fail)
      go_wp2
      go_ret3
      have hz := HE.out
      simp only [Prod.mk.injEq] at hz
      obtain ⟨rfl, rfl, rfl⟩ := hz
      exact ⟨.slice none 0 0, rfl, Kd.R_nil _ _ _ _ _, pw_below_drewN (HB1.out.trans (HPW.out.bel.mono HB1.out.size)) _⟩
    · have b1 : (e == 0) = true := beq_iff_eq.mpr he
      have b2 : (e != 0) = false := by rw [he]; rfl
      have HC2 := Aside0.mk hcs
      have HE0 := Aside0.mk he
      clear hcs he HCS
      obtain ⟨x0, x1, x2⟩ := HPW.out.par.cells
      go_wp2_with fail
      refine (peek_walk w1 wr c L i HPW.out.par.cur HPW.out.bel HPOS.out.ge HPOS.out.lt).mono ?_
      rintro e5 w5 ⟨rfl, hb⟩
      clear x0 x1 x2
      replace HPW := Aside0.mk (HPW.out.below hb)
      clear hb
      rcases HC2.out with ⟨hk, hqq⟩ | ⟨hk, hlen, A, i', e', a', hst, hI⟩
      · have b3 : ((tokAt L i).f0 != 0) = false := by rw [hk]; rfl
        have hrr := HR.out
        rw [← hqq] at hrr
        replace hrr := (if_pos HE0.out).symm.trans hrr
        obtain ⟨cc, hcc, hrr⟩ := Option.bind_eq_some_iff.1 hrr
        have HCC := Aside0.mk hcc
        have HRR := Aside0.mk hrr
        clear hk hqq hcc hrr hg HC2
        obtain ⟨x0, x1, x2⟩ := HPW.out.par.cells
        go_wp2_with fail
        refine (asset_Check.calls k Ao co out cc w5 (Kd.R_reads' HPW.out.out).2.2 (Kd.R_reads' HPW.out.out).2.1 HCC.out).mono ?_
        rintro e w6 ⟨rfl, hb⟩
        clear x0 x1 x2
        have HPW6 := Aside0.mk (HPW.out.below hb)
        clear hb
        by_cases hcc : cc = 0
        · have b9 : (cc != 0) = false := by rw [hcc]; rfl
          have HZ : Aside0 ((out, (0 : Int), (0 : Int)) = (r1, r2, r3)) := ⟨Option.some.inj ((if_pos hcc).symm.trans HRR.out)⟩
          clear hcc
          go_wp2
          go_ret3
          have hz := HZ.out
          simp only [Prod.mk.injEq] at hz
          obtain ⟨rfl, rfl, rfl⟩ := hz
          exact ⟨_, rfl, Kd.R_lower (Kd.R_mono HPW6.out.out (fun _ _ => trivial)) HB1.out.size, HB1.out.trans (HPW6.out.bel.mono HB1.out.size)⟩
        · have b9 : (cc != 0) = true := bne_iff_ne.mpr hcc
          have HZ : Aside0 ((([] : List S36), cc, (0 : Int)) = (r1, r2, r3)) := ⟨Option.some.inj ((if_neg hcc).symm.trans HRR.out)⟩
          clear hcc
          go_wp2
          go_ret3
          have hz := HZ.out
          simp only [Prod.mk.injEq] at hz
          obtain ⟨rfl, rfl, rfl⟩ := hz
          exact ⟨.slice none 0 0, rfl, Kd.R_nil _ _ _ _ _, HB1.out.trans (HPW6.out.bel.mono HB1.out.size)⟩
      · have b3 : ((tokAt L i).f0 != 0) = true := bne_iff_ne.mpr hk
        have HST := Aside0.mk hst
        have HI2 := Aside0.mk hI
        have HLEN := Aside0.mk hlen
        have HGG := Aside0.mk hg
        clear hk hst hI hlen hg HC2
        have HOLD : Aside0 ((∀ k, (Value.slice Ao out.length co).ownBlock = some k → k < w5.heap.size) ∧ p < w5.heap.size ∧ c < w5.heap.size ∧ w1.heap.size ≤ w5.heap.size) := ⟨fun k hk => ((Kd.R_bound HPW.out.out).1 k hk).2.2.1, HPW.out.par.lt, HPW.out.par.cur.lt, HPW.out.bel.size⟩
        go_wp2_with fail
        refine (statement_walk g w1 w5 p c L i e a A i' e' a' HPW.out.par HPW.out.bel HPOS.out HW1.out HST.out).mono ?_
        rintro r7 w7 ⟨v7, rfl, ho, hi, hb, hk⟩
        obtain ⟨A7, c7, hv⟩ := Kd.R_slice ho
        subst hv
        have HO7 := Aside0.mk (Kd.R_kept HPW.out.out hk (fun k hk' => by rintro (h | h); exact hk'.1 h; exact hk'.2 h))
        have HI7 := Aside0.mk hi
        have HB7 := Aside0.mk hb
        have HR7 := Aside0.mk (Kd.R_lower (Kd.R_mono (Kd.R_bound ho) (fun k hk => hk.2.1)) HOLD.out.2.2.2)
        have HS7 := Aside0.mk hk.1
        clear ho hi hb hk HPW
        go_wp2_with (at_builtin; refine Kd.R_append k36 (w0 := w1) w1.heap.size rfl (.tmp 35) (.tmp 38) 22 36 (.agg (assetCells z36 (.slice none 0 0))) 120 rfl Tryz.underlying22 infoA rfl (by decide) (by omega) (.slice Ao out.length co) out A (assetCells A (.slice A7 A.f8.length c7)).toList (fun k => k ≠ p ∧ k ≠ c) (fun k => w5.heap.size ≤ k) rfl (by go_simp) (k36_mkM _ _ _ A HR7.out) ?aP ?aF HO7.out HB7.out HB7.out.size ?aL ?_)
        case aP => exact fun k hk => ⟨⟨by have := HOLD.out.2; omega, by have := HOLD.out.2; omega⟩, fun he => by have := HOLD.out.1 k he.symm; omega⟩
        case aF => exact fun k hk => ⟨by have := HI7.out.lt; omega, by have := HI7.out.cur.lt; omega⟩
        case aL => have := HLEN.out; omega
        intro v1 w8 ho hb1 hgr hat
        obtain ⟨A8, c8, hv⟩ := Kd.R_slice ho
        subst hv
        have HZ := Aside0.mk (ParW.append HI7.out HB7.out HO7.out ho hb1 hgr)
        clear ho hb1 hgr hat
        obtain ⟨n8, hn8⟩ : ∃ x, (out ++ [A]).length = x := ⟨_, rfl⟩
        rw [hn8]
        have HN8 := Aside0.mk hn8
        clear hn8
        go_wp2
        have hg := HGG.out
        clear HGG
        subst hg
        go_roundg g
        case measure => exact Nat.lt_succ_self g
        case rel => exact ⟨out ++ [A], A8, c8, i', e', a', by rw [HN8.out], HI2, HZ⟩
theorem parse_bad (k : Nat) (s : ByteArray) (L : List (S84)) (e0 at0 : Int) (w : World) (hs : lexer_Scan.f k s = some (L, e0, at0)) (he : e0 ≠ 0) :
    Calls Tryz.prog 21 #[.string s] w fun e w' => e = .returned (.tuple #[.slice none 0 0, .int .i64 e0, .int .i64 at0]) ∧ Below w.heap.size w w' := by
  have HS := Aside0.mk hs
  have HE := Aside0.mk he
  have b1 : (e0 != 0) = true := bne_iff_ne.mpr he
  clear hs he
  go_enter Tryz.func21, Tryz.ntmps21
  go_wp2_with fail
  refine (newcur_bad k s L e0 at0 w HS.out HE.out).mono ?_
  rintro e w2 ⟨rfl, hb⟩
  have HB := Aside0.mk hb
  clear hb
  go_wp2
  go_ret3
  exact ⟨rfl, HB.out⟩
theorem asset_Parse.calls (k : Nat) (s : ByteArray) (r1 : List S36) (r2 r3 : Int) (w : World) (h : asset_Parse.f k s = some (r1, r2, r3)) (hW_ : WOK w) :
    Calls Tryz.prog 21 #[.string s] w fun e w' => ∃ v0_ : Value, e = .returned (.tuple #[v0_, .int .i64 r2, .int .i64 r3]) ∧ Kd.R k36 36 w' w.heap.size (fun _ => True) v0_ r1 ∧ Below w.heap.size w w' := by
  unfold asset_Parse.f at h
  obtain ⟨⟨L, e0, at0⟩, hs, h⟩ := Option.bind_eq_some_iff.1 h
  split at h
  · rename_i he
    change e0 = 0 at he
    subst he
    split at h
    · rename_i h0
      split at h
      · rename_i h1
        obtain ⟨q, hq, hr⟩ := Option.bind_eq_some_iff.1 h
        exact parse_ok k s L at0 q r1 r2 r3 w hs h0 h1 hq hr hW_
      · cases h
    · cases h
  · rename_i he
    simp only [Option.some.injEq, Prod.mk.injEq] at h
    obtain ⟨rfl, rfl, rfl⟩ := h
    refine (parse_bad k s L e0 at0 w hs he).mono ?_
    rintro e w' ⟨rfl, hb⟩
    exact ⟨_, rfl, Kd.R_nil _ _ _ _ _, hb⟩
structure TabW (w0 W : World) (p : Nat) (l : List S36) (v : Value) : Prop where
  blk : W.heap[p]? = some (.cells #[v] 93 (0, 0))
  bel : Below w0.heap.size w0 W
  ge : w0.heap.size ≤ p
  out : Kd.R k36 36 W w0.heap.size (fun k => k ≠ p) v l
theorem TabW.below {w0 W W1 : World} {p : Nat} {l : List S36} {v : Value} (h : TabW w0 W p l v) (hb : Below W.heap.size W W1) : TabW w0 W1 p l v := ⟨blk_below h.blk hb, below_then h.bel h.bel.size hb, h.ge, Kd.R_below h.out hb⟩
def asset_New.f (k : Nat) (l : List S36) : Option (Option (List S36) × Int) :=
  (asset_Check.f k l).bind fun c => if c = 0 then (if l.length ≤ 1000 ∧ (l.all fun a => decide (a.f8.length < 1000000)) = true then some (some l, 0) else none) else some (none, c)
theorem tab_get {l : List S36} {j : Nat} (h : j < l.length) : rd_T36 l (j : Int) = l[j] := by unfold rd_T36; rw [Int.toNat_natCast, List.getD_eq_getElem?_getD, List.getElem?_eq_getElem h]; rfl
theorem tab_mem {l : List S36} {j : Nat} (h : j < l.length) : rd_T36 l (j : Int) ∈ l := by rw [tab_get h]; exact List.getElem_mem h
theorem tab_take {l : List S36} {j : Nat} (h : j < l.length) : l.take (j + 1) = l.take j ++ [rd_T36 l (j : Int)] := by rw [tab_get h]; exact (List.take_append_getElem h).symm
theorem new_ok (k : Nat) (A : Option Addr) (c : Nat) (l : List S36) (w : World) (hC : Kd.C k36 w A l.length l) (hc : l.length ≤ c) (h : asset_Check.f k l = some 0) (hl : l.length ≤ 1000) (hs : ∀ a ∈ l, a.f8.length < 1000000) :
    Calls Tryz.prog 25 #[.slice A l.length c] w fun e w' => ∃ w1 p v, e = .returned (.tuple #[.pointer (some ⟨p, 0, none⟩), .int .i64 0]) ∧ Below w.heap.size w w1 ∧ TabW w1 w' p l v := by
  have hu := Tryz.underlying36
  have hu2 := Tryz.underlying93
  have HC := Aside0.mk hC
  have HCC := Aside0.mk hc
  have HL := Aside0.mk hl
  have HS := Aside0.mk hs
  have HCK := Aside0.mk (asset_Check.calls k A c l 0 w hC hc h)
  obtain ⟨n, hn⟩ : ∃ n, l.length = n := ⟨_, rfl⟩
  rw [hn] at HCK HL ⊢
  have HN := Aside0.mk hn
  clear hC hc h hl hs hn
  go_enter Tryz.func25, Tryz.ntmps25
  go_wp2_with fail
  refine HCK.out.mono ?_
  rintro e w2 ⟨rfl, hb2⟩
  have HB2 := Aside0.mk hb2
  clear hb2
  go_upto_region 6 with (fail)
  have HT : Aside0 (TabW w2 (w2.alloc (.cells #[.slice none 0 0] 93)) w2.heap.size (l.take 0) (.slice none 0 0)) := ⟨heap_alloc_new _ _, below_alloc (Below.refl _ _) _, Nat.le_refl _, Kd.R_nil _ _ _ _ _⟩
  obtain ⟨p, hp⟩ : ∃ x, w2.heap.size = x := ⟨_, rfl⟩
  simp only [hp] at HT ⊢
  clear hp
  change Code.wp _ _ _ _ (w2.alloc (.cells #[.slice none 0 0] 93))
  generalize w2.alloc (.cells #[.slice none 0 0] 93) = W0 at HT ⊢
  go_loopg [17] (n + 1) (fun gg v17 wr => ∃ (i : Nat) (Ao : Option Addr) (co : Nat), v17 = .int .i64 (i : Int) ∧ Aside0 (gg + i = n + 1 ∧ i ≤ n) ∧ Aside0 (TabW w2 wr p (l.take i) (.slice Ao i co)))
  case atStart => exact ⟨0, none, 0, rfl, ⟨by omega, by omega⟩, HT⟩
  case round =>
    clear HT W0
    obtain ⟨i, Ao, co, rfl, HI, HT⟩ := hrel
    have HB := Aside0.mk (below_then HB2.out HB2.out.size HT.out.bel)
    by_cases hi : i < n
    · have HII := Aside0.mk hi
      have b2 : decide ((i : Int) < (n : Int)) = true := decide_eq_true (by omega)
      have b2' : decide (i < n) = true := decide_eq_true hi
      have b3 : n ≤ 1000000 := by have := HL.out; omega
      obtain ⟨ad, Ab, cb, rfl, k0, k1, k2, k3, k4, k5, k6, k7, k8, k9, k10, k11, kl, kc⟩ := at_T36 (Kd.C_below HC.out HB.out) (i : Int) (by omega) (by rw [HN.out]; omega)
      simp only [Int.toNat_natCast] at k0 k1 k2 k3 k4 k5 k6 k7 k8 k9 k10 k11
      have HTK : Aside0 (l.take (i + 1) = l.take i ++ [rd_T36 l (i : Int)]) := ⟨tab_take (by rw [HN.out]; exact hi)⟩
      have HSM : Aside0 ((rd_T36 l (i : Int)).f8.length < 1000000) := ⟨HS.out _ (tab_mem (by rw [HN.out]; exact hi))⟩
      have HLT : Aside0 ((l.take i).length = i) := ⟨by rw [List.length_take, HN.out]; omega⟩
      obtain ⟨a, ha⟩ : ∃ a, rd_T36 l (i : Int) = a := ⟨_, rfl⟩
      rw [ha] at k0 k1 k2 k3 k4 k5 k6 k7 k8 k9 k10 k11 kl kc HTK HSM
      have HKC := Aside0.mk kc
      clear kl kc ha
      go_upto_region 8 with (fail)
      clear hi
      obtain ⟨ga, hga⟩ : ∃ x, wr.heap.size = x := ⟨_, rfl⟩
      have HA : Aside0 ((wr.alloc (.cells (asC a (.slice Ab a.f8.length cb)) 36)).heap[wr.heap.size]? = some (.cells (asC a (.slice Ab a.f8.length cb)) 36 (0, 0))) := ⟨heap_alloc_new _ _⟩
      rw [hga] at HA
      simp only [hga]
      clear hga k0 k1 k2 k3 k4 k5 k6 k7 k8 k9 k10 k11
      replace HKC := Aside0.mk (Kd.C_below HKC.out (below_alloc (Below.refl _ _) (.cells (asC a (.slice Ab a.f8.length cb)) 36)))
      replace HT := Aside0.mk (HT.out.below (below_alloc (Below.refl _ _) (.cells (asC a (.slice Ab a.f8.length cb)) 36)))
      change Code.wp _ _ _ _ (wr.alloc (.cells (asC a (.slice Ab a.f8.length cb)) 36))
      generalize wr.alloc (.cells (asC a (.slice Ab a.f8.length cb)) 36) = W1 at HA HKC HT ⊢
      obtain ⟨d0, d1, d2, d3, d4, d5, d6, d7, d8, d9, d10, d11⟩ := zc12 HA
      have q0 := zc (Aside0.mk HT.out.blk) 0
      have HOLD : Aside0 ((∀ k, (Value.slice Ao i co).ownBlock = some k → k < W1.heap.size) ∧ p < W1.heap.size ∧ w2.heap.size ≤ W1.heap.size) := ⟨fun k hk => ((Kd.R_bound HT.out.out).1 k hk).2.2.1, blk_lt HT.out.blk, HT.out.bel.size⟩
      clear d0 d1 d2 d3 d4 d5 d6 d7 d8 d9 d10 d11 q0
      refine start_ (n := 12) (S := fun w' => w'.cell? ⟨p, 0, none⟩ = some (.slice Ao i co) ∧ w'.cell? ⟨ga, 0, none⟩ = some (.string a.f0) ∧ w'.cell? ⟨ga, 1, none⟩ = some (.bool a.f1.f0.f0) ∧ w'.cell? ⟨ga, 2, none⟩ = some (.int .u64 a.f1.f0.f1) ∧ w'.cell? ⟨ga, 3, none⟩ = some (.int .u64 a.f1.f0.f2) ∧ w'.cell? ⟨ga, 4, none⟩ = some (.int .i64 a.f1.f1) ∧ w'.cell? ⟨ga, 5, none⟩ = some (.int .i64 a.f2) ∧ w'.cell? ⟨ga, 6, none⟩ = some (.int .i64 a.f3) ∧ w'.cell? ⟨ga, 7, none⟩ = some (.int .i64 a.f4) ∧ w'.cell? ⟨ga, 8, none⟩ = some (.int .i64 a.f5) ∧ w'.cell? ⟨ga, 9, none⟩ = some (.bool a.f6) ∧ w'.cell? ⟨ga, 10, none⟩ = some (.int .i64 a.f7) ∧ w'.cell? ⟨ga, 11, none⟩ = some (.slice Ab a.f8.length cb)) (ds := [8, 11]) #[false, false, false, false, false, false, false, false, false, false, false, false] (by kernel_rfl) rfl rfl ⟨zc (Aside0.mk HT.out.blk) 0, zc (HA) 0, zc (HA) 1, zc (HA) 2, zc (HA) 3, zc (HA) 4, zc (HA) 5, zc (HA) 6, zc (HA) 7, zc (HA) 8, zc (HA) 9, zc (HA) 10, zc (HA) 11⟩ (fun hHeld => ?_)
      replace HT := Aside0.mk (HT.out.below (Below.drew (Below.refl _ _)))
      replace HKC := Aside0.mk (Kd.C_below HKC.out (Below.drew (Below.refl _ _)))
      replace HA : Aside0 (W1.drew.heap[ga]? = some (.cells (asC a (.slice Ab a.f8.length cb)) 36 (0, 0))) := ⟨HA.out⟩
      replace HOLD : Aside0 ((∀ k, (Value.slice Ao i co).ownBlock = some k → k < W1.drew.heap.size) ∧ p < W1.drew.heap.size ∧ w2.heap.size ≤ W1.drew.heap.size) := ⟨HOLD.out⟩
      generalize W1.drew = W2 at HA HKC HT HOLD hHeld ⊢
      refine zp0 0 21 ?_; refine zp0 1 22 ?_; refine zp0 2 23 ?_; refine zp0 3 24 ?_; refine zt0 4 25 hHeld ?_; refine zt0 5 26 hHeld ?_; refine zo0 6 27 (fun K hK => ?_)
      refine zg Tryz.func52 #[.agg (asC a (.slice Ab a.f8.length cb))] ?_
      refine (clone_walk' a Ab cb W2 HKC.out HSM.out).mono ?_
      rintro e w7 ⟨g7, rfl, ho, hb⟩
      refine ⟨_, rfl, ?_⟩
      have HT7 := Aside0.mk (HT.out.below hb)
      have HA7 := Aside0.mk (blk_below HA.out hb)
      have HR7 := Aside0.mk (Kd.R_lower (Kd.R_mono (Kd.R_bound ho) (fun k hk => hk.2.1)) HOLD.out.2.2)
      have HS7 := Aside0.mk hb.size
      clear ho hb HT HA
      refine hK.out _ _ ⟨zc (Aside0.mk HT7.out.blk) 0, zc (HA7) 0, zc (HA7) 1, zc (HA7) 2, zc (HA7) 3, zc (HA7) 4, zc (HA7) 5, zc (HA7) 6, zc (HA7) 7, zc (HA7) 8, zc (HA7) 9, zc (HA7) 10, zc (HA7) 11⟩ (fun hHeld => ?_)
      clear hK K
      refine zn 27 ?_
      refine zo0 7 28 (fun K hK => ?_)
      refine value_ (w1 := ?_) (v := ?_) (by rfl) rfl ?_ ?_
      rotate_left 2
      · go_simp
        constructor
        · rfl
        · rfl
      refine hK.out _ _ ⟨zc (Aside0.mk (blk_alloc HT7.out.blk _)) 0, zc (Aside0.mk (blk_alloc HA7.out _)) 0, zc (Aside0.mk (blk_alloc HA7.out _)) 1, zc (Aside0.mk (blk_alloc HA7.out _)) 2, zc (Aside0.mk (blk_alloc HA7.out _)) 3, zc (Aside0.mk (blk_alloc HA7.out _)) 4, zc (Aside0.mk (blk_alloc HA7.out _)) 5, zc (Aside0.mk (blk_alloc HA7.out _)) 6, zc (Aside0.mk (blk_alloc HA7.out _)) 7, zc (Aside0.mk (blk_alloc HA7.out _)) 8, zc (Aside0.mk (blk_alloc HA7.out _)) 9, zc (Aside0.mk (blk_alloc HA7.out _)) 10, zc (Aside0.mk (blk_alloc HA7.out _)) 11⟩ (fun hHeld => ?_)
      clear hK K
      refine zn 28 ?_
      refine last_ (i := 8) (N := some 29) #[true, true, true, true, true, true, true, true, true, false, false, false] rfl rfl (by kernel_rfl) (by decide) (fun K hK => ?_)
      refine Kd.R_append_step k36 (w0 := w2) w2.heap.size (by rfl) (.tmp 25) (.tmp 28) 22 36 (.agg (assetCells z36 (.slice none 0 0))) 120 rfl Tryz.underlying22 infoA rfl (by decide) (by omega) (.slice Ao i co) (l.take i) a [.string a.f0, .bool a.f1.f0.f0, .int .u64 a.f1.f0.f1, .int .u64 a.f1.f0.f2, .int .i64 a.f1.f1, .int .i64 a.f2, .int .i64 a.f3, .int .i64 a.f4, .int .i64 a.f5, .bool a.f6, .int .i64 a.f7, .slice (some ⟨g7, 0, none⟩) a.f8.length a.f8.length] (fun k => k ≠ p) (fun k => W2.heap.size ≤ k) rfl rfl ?aM ?aP ?aF ?aO ?aB ?aS ?aL ?_
      (case aM => exact k36_mkM _ _ _ a HR7.out)
      (case aP => exact fun k hk => ⟨by have := HOLD.out.2; omega, fun he => by have := HOLD.out.1 k he.symm; omega⟩)
      (case aF => exact fun k hk => by have := HOLD.out.2.1; have := HS7.out; omega)
      (case aO => exact HT7.out.out)
      (case aB => exact HT7.out.bel)
      (case aS => exact HT7.out.bel.size)
      (case aL => have := HLT.out; have := HL.out; have := HII.out; omega)
      intro v1 w8 ho hb1 hgr hat
      obtain ⟨A8, c8, hv⟩ := Kd.R_slice ho
      subst hv
      have HB8 := Aside0.mk (blk_grown HT7.out.blk hgr (Kd.R_ne HT7.out.out HT7.out.blk (by decide)))
      have hf3 : w8.frozen? ⟨p, 0, none⟩ = false := by simp [World.frozen?, HB8.out]
      have hc3 := (blk_cell HB8.out 0)
      have HO8 := Aside0.mk ho
      have HBB8 := Aside0.mk hb1
      clear ho hb1 hgr hat
      have HN8 : Aside0 ((l.take i ++ [a]).length = i + 1) := ⟨by rw [List.length_append, HLT.out]; rfl⟩
      rw [HN8.out]
      refine hK.out _ _ ?_
      clear hK K
      refine zn 29 ?_
      refine zp0 9 30 ?_; refine zp0 10 31 ?_
      refine last_ (i := 11) (N := none) #[true, true, true, true, true, true, true, true, true, true, true, true] rfl rfl (by kernel_rfl) (by decide) (fun K hK => ?_)
      refine skip_ (w1 := ?_) (by rfl) rfl ?_ ?_
      rotate_left
      · go_simp
        rfl
      refine hK.out _ _ ?_
      clear hK K
      refine zd0 ?_
      have HTN : Aside0 (TabW w2 (w8.setCell ⟨p, 0, none⟩ (.slice A8 (i + 1) c8)) p (l.take (i + 1)) (.slice A8 (i + 1) c8)) := ⟨blk_put HB8.out 0 _ rfl, HBB8.out.setCell HT7.out.ge _, HT7.out.ge, by rw [HTK.out]; exact Kd.R_set (by have h := HO8.out; rw [HN8.out] at h; exact h) HB8.out (by decide) 0 _⟩
      have HI1 : Aside0 ((n - i) + (i + 1) = n + 1 ∧ i + 1 ≤ n) := ⟨by have := HII.out; omega, HII.out⟩
      have hi2 : i < n := HII.out
      go_wp2
      go_roundg (n - i)
      case measure => have := HI.out.1; have := HII.out; omega
      case rel => exact ⟨i + 1, A8, c8, by (have := HII.out; go_num), HI1, HTN⟩
    · have HE : Aside0 (l.take i = l) := ⟨List.take_of_length_le (by rw [HN.out]; omega)⟩
      have b2 : decide ((i : Int) < (n : Int)) = false := decide_eq_false (by omega)
      have b2' : decide (i < n) = false := decide_eq_false hi
      go_wp2
      go_ret2
      exact ⟨w2, p, _, rfl, HB2.out, by rw [HE.out] at HT; exact HT.out⟩
end Go.Proofs.YtnphnhkinjppjaaGreatDoor.Q
end

section
set_option maxHeartbeats 8000000
set_option maxRecDepth 100000
namespace Go.Proofs.YtnphnhkinjppjaaGreatDoor.Q
open Go.RowKit Go.Proofs.YtnphnhkinjppjaaGreatDoorW.PrintWords Go.Proofs.YtnphnhkinjppjaaGreatDoorW.PrintLast Go.Proofs.YtnphnhkinjppjaaGreatDoorW.PrintMore
attribute [local go_sem] max2_int min2_int max_two min_two max_three min_three max_four min_four
def address_Contains.f (a0_0 : Bool) (a0_1 : Int) (a0_2 : Int) (a0_3 : Int) (a1_0 : Bool) (a1_1 : Int) (a1_2 : Int) : Option (Bool) := if (a0_0 != a1_0) = true then (some false) else ((address_mask.f a1_0 a1_1 a1_2 a0_3).bind fun bt265 => (if (Go.bits .andNot .u64 a1_1 bt265.1) = (Go.bits .andNot .u64 a0_1 bt265.1) then (some ((Go.bits .andNot .u64 a1_2 bt265.2) == (Go.bits .andNot .u64 a0_2 bt265.2))) else (some false)))
theorem address_Contains.calls (a0_0 : Bool) (a0_1 : Int) (a0_2 : Int) (a0_3 : Int) (a1_0 : Bool) (a1_1 : Int) (a1_2 : Int) (r : Bool) (w : World) (h : address_Contains.f a0_0 a0_1 a0_2 a0_3 a1_0 a1_1 a1_2 = some r) :
 Calls Tryz.prog 53 #[.agg #[.bool a0_0, .int .u64 a0_1, .int .u64 a0_2, .int .i64 a0_3], .agg #[.bool a1_0, .int .u64 a1_1, .int .u64 a1_2]] w fun e w' => e = .returned (.bool r) ∧ Below w.heap.size w w' := by
 have hu33 := Tryz.underlying33
 have hu31 := Tryz.underlying31
 have HB := Aside0.mk (Below.refl w.heap.size w)
 unfold address_Contains.f at h; have H := h
 clear h
 by_cases c3 : (a0_0 != a1_0) = true
 · rw [if_pos c3] at H
   have c3b0 : (a0_0 != a1_0) = true := c3
   (try (have c3b1 : decide (a0_0 = a1_0) = false := by first | (simpa using c3) | exact decide_eq_true (Decidable.not_not.1 (fun hn => c3 (bne_iff_ne.2 hn))) | exact beq_iff_eq.2 (Decidable.not_not.1 (fun hn => c3 (bne_iff_ne.2 hn))) | exact decide_eq_false (bne_iff_ne.1 c3) | exact beq_eq_false_iff_ne.2 (bne_iff_ne.1 c3) | exact bne_iff_ne.1 c3))
   (try (have c3b2 : (a0_0 == a1_0) = false := by first | (simpa using c3) | exact decide_eq_true (Decidable.not_not.1 (fun hn => c3 (bne_iff_ne.2 hn))) | exact beq_iff_eq.2 (Decidable.not_not.1 (fun hn => c3 (bne_iff_ne.2 hn))) | exact decide_eq_false (bne_iff_ne.1 c3) | exact beq_eq_false_iff_ne.2 (bne_iff_ne.1 c3) | exact bne_iff_ne.1 c3))
   (try (have c3b3 : ¬ (a0_0 = a1_0) := by first | (simpa using c3) | exact decide_eq_true (Decidable.not_not.1 (fun hn => c3 (bne_iff_ne.2 hn))) | exact beq_iff_eq.2 (Decidable.not_not.1 (fun hn => c3 (bne_iff_ne.2 hn))) | exact decide_eq_false (bne_iff_ne.1 c3) | exact beq_eq_false_iff_ne.2 (bne_iff_ne.1 c3) | exact bne_iff_ne.1 c3))
   clear c3
   obtain rfl := Option.some.inj H
   go_enter Tryz.func53, Tryz.ntmps53
   go_wp2_with (first | ((with_reducible refine gate_dst (N := 2) rfl ?_); refine zx 2 #[.bool a0_0, .int .u64 a0_1, .int .u64 a0_2, .int .i64 a0_3] 33 ?_; intro gb263 hg w4 hbox hb; have BK263 := Aside0.mk (hbox); have GW263 := zG HB hg; have GE263 := zG HB hg; replace HB := Aside0.mk (below_step (zB HB) hb); clear hb hbox hg) | ((with_reducible refine gate_dst (N := 3) rfl ?_); refine zx 3 #[.bool a1_0, .int .u64 a1_1, .int .u64 a1_2] 31 ?_; intro gb264 hg w5 hbox hb; have BK264 := Aside0.mk (hbox); have GW264 := zG HB hg; have GE264 := zG HB hg; replace HB := Aside0.mk (below_step (zB HB) hb); have NB263_264 := Aside0.mk ((by rw [hg]; exact Nat.ne_of_lt (blk_lt (g := gb263) (o := .cells #[.bool a0_0, .int .u64 a0_1, .int .u64 a0_2, .int .i64 a0_3] 33 (0, 0)) (zK BK263)) : gb263 ≠ gb264)); have NB264_263 := Aside0.mk ((by rw [hg]; exact Nat.ne_of_gt (blk_lt (g := gb263) (o := .cells #[.bool a0_0, .int .u64 a0_1, .int .u64 a0_2, .int .i64 a0_3] 33 (0, 0)) (zK BK263)) : gb264 ≠ gb263)); replace BK263 := zkb BK263 hb; clear hb hbox hg; have hnb6 := NB263_264.out; have hnc6 := NB264_263.out; obtain ⟨hcz7_0, hcz7_1, hcz7_2, hcz7_3⟩ := zc4 BK263; obtain ⟨hfz7_0, hfz7_1, hfz7_2, hfz7_3⟩ := zf4 BK263; obtain ⟨hcz8_0, hcz8_1, hcz8_2⟩ := zc3 BK264; obtain ⟨hfz8_0, hfz8_1, hfz8_2⟩ := zf3 BK264))
   go_ret
   exact ⟨zr, zB HB⟩
 rw [if_neg c3] at H
 have c3b0 : (a0_0 != a1_0) = false := by simpa using c3
 (try (have c3b1 : decide (a0_0 = a1_0) = true := by first | (simpa using c3) | exact decide_eq_true (Decidable.not_not.1 (fun hn => c3 (bne_iff_ne.2 hn))) | exact beq_iff_eq.2 (Decidable.not_not.1 (fun hn => c3 (bne_iff_ne.2 hn))) | exact decide_eq_false (bne_iff_ne.1 c3) | exact beq_eq_false_iff_ne.2 (bne_iff_ne.1 c3) | exact bne_iff_ne.1 c3))
 (try (have c3b2 : (a0_0 == a1_0) = true := by first | (simpa using c3) | exact decide_eq_true (Decidable.not_not.1 (fun hn => c3 (bne_iff_ne.2 hn))) | exact beq_iff_eq.2 (Decidable.not_not.1 (fun hn => c3 (bne_iff_ne.2 hn))) | exact decide_eq_false (bne_iff_ne.1 c3) | exact beq_eq_false_iff_ne.2 (bne_iff_ne.1 c3) | exact bne_iff_ne.1 c3))
 clear c3
 replace H := Option.bind_eq_some_iff.mp H
 obtain ⟨⟨t265, t266⟩, A90, H⟩ := H
 try dsimp only at H
 have A9 := Aside0.mk A90; clear A90
 by_cases c10 : (Go.bits .andNot .u64 a1_1 t265) = (Go.bits .andNot .u64 a0_1 t265)
 · rw [if_pos c10] at H
   have c10b0 : ((Go.bits .andNot .u64 a1_1 t265) == (Go.bits .andNot .u64 a0_1 t265)) = true := beq_iff_eq.mpr c10; have c10b1 : ((Go.bits .andNot .u64 a1_1 t265) != (Go.bits .andNot .u64 a0_1 t265)) = false := bne_eq_false_iff_eq.mpr c10; clear c10
   obtain rfl := Option.some.inj H
   go_enter Tryz.func53, Tryz.ntmps53
   go_wp2_with (first | ((with_reducible refine gate_dst (N := 2) rfl ?_); refine zx 2 #[.bool a0_0, .int .u64 a0_1, .int .u64 a0_2, .int .i64 a0_3] 33 ?_; intro gb263 hg w11 hbox hb; have BK263 := Aside0.mk (hbox); have GW263 := zG HB hg; have GE263 := zG HB hg; replace HB := Aside0.mk (below_step (zB HB) hb); clear hb hbox hg) | ((with_reducible refine gate_dst (N := 3) rfl ?_); refine zx 3 #[.bool a1_0, .int .u64 a1_1, .int .u64 a1_2] 31 ?_; intro gb264 hg w12 hbox hb; have BK264 := Aside0.mk (hbox); have GW264 := zG HB hg; have GE264 := zG HB hg; replace HB := Aside0.mk (below_step (zB HB) hb); have NB263_264 := Aside0.mk ((by rw [hg]; exact Nat.ne_of_lt (blk_lt (g := gb263) (o := .cells #[.bool a0_0, .int .u64 a0_1, .int .u64 a0_2, .int .i64 a0_3] 33 (0, 0)) (zK BK263)) : gb263 ≠ gb264)); have NB264_263 := Aside0.mk ((by rw [hg]; exact Nat.ne_of_gt (blk_lt (g := gb263) (o := .cells #[.bool a0_0, .int .u64 a0_1, .int .u64 a0_2, .int .i64 a0_3] 33 (0, 0)) (zK BK263)) : gb264 ≠ gb263)); replace BK263 := zkb BK263 hb; clear hb hbox hg; have hnb13 := NB263_264.out; have hnc13 := NB264_263.out; obtain ⟨hcz14_0, hcz14_1, hcz14_2, hcz14_3⟩ := zc4 BK263; obtain ⟨hfz14_0, hfz14_1, hfz14_2, hfz14_3⟩ := zf4 BK263; obtain ⟨hcz15_0, hcz15_1, hcz15_2⟩ := zc3 BK264; obtain ⟨hfz15_0, hfz15_1, hfz15_2⟩ := zf3 BK264) | ((with_reducible refine gate_callee (f := 86) rfl ?_); refine zgl 17 Tryz.func86 #[.agg #[.bool a1_0, .int .u64 a1_1, .int .u64 a1_2], .int .i64 a0_3] ?_; (with_reducible refine (address_mask.calls a1_0 a1_1 a1_2 a0_3 t265 t266 _ A9.out).mono ?_); rintro e w16 ⟨rfl, hb⟩; refine ⟨_, rfl, ?_⟩; replace BK263 := zkb BK263 hb; replace BK264 := zkb BK264 hb; replace HB := Aside0.mk (below_step (zB HB) hb); (try clear hb); obtain ⟨hcz17_0, hcz17_1, hcz17_2⟩ := zc3 BK264; obtain ⟨hfz17_0, hfz17_1, hfz17_2⟩ := zf3 BK264; obtain ⟨hcz18_0, hcz18_1, hcz18_2, hcz18_3⟩ := zc4 BK263; obtain ⟨hfz18_0, hfz18_1, hfz18_2, hfz18_3⟩ := zf4 BK263))
   go_ret
   exact ⟨zr, zB HB⟩
 rw [if_neg c10] at H
 have c10b0 : ((Go.bits .andNot .u64 a1_1 t265) == (Go.bits .andNot .u64 a0_1 t265)) = false := beq_eq_false_iff_ne.mpr c10
 have c10b1 : ((Go.bits .andNot .u64 a1_1 t265) != (Go.bits .andNot .u64 a0_1 t265)) = true := bne_iff_ne.mpr c10
 obtain rfl := Option.some.inj H
 go_enter Tryz.func53, Tryz.ntmps53
 go_wp2_with (first | ((with_reducible refine gate_dst (N := 2) rfl ?_); refine zx 2 #[.bool a0_0, .int .u64 a0_1, .int .u64 a0_2, .int .i64 a0_3] 33 ?_; intro gb263 hg w19 hbox hb; have BK263 := Aside0.mk (hbox); have GW263 := zG HB hg; have GE263 := zG HB hg; replace HB := Aside0.mk (below_step (zB HB) hb); clear hb hbox hg) | ((with_reducible refine gate_dst (N := 3) rfl ?_); refine zx 3 #[.bool a1_0, .int .u64 a1_1, .int .u64 a1_2] 31 ?_; intro gb264 hg w20 hbox hb; have BK264 := Aside0.mk (hbox); have GW264 := zG HB hg; have GE264 := zG HB hg; replace HB := Aside0.mk (below_step (zB HB) hb); have NB263_264 := Aside0.mk ((by rw [hg]; exact Nat.ne_of_lt (blk_lt (g := gb263) (o := .cells #[.bool a0_0, .int .u64 a0_1, .int .u64 a0_2, .int .i64 a0_3] 33 (0, 0)) (zK BK263)) : gb263 ≠ gb264)); have NB264_263 := Aside0.mk ((by rw [hg]; exact Nat.ne_of_gt (blk_lt (g := gb263) (o := .cells #[.bool a0_0, .int .u64 a0_1, .int .u64 a0_2, .int .i64 a0_3] 33 (0, 0)) (zK BK263)) : gb264 ≠ gb263)); replace BK263 := zkb BK263 hb; clear hb hbox hg; have hnb21 := NB263_264.out; have hnc21 := NB264_263.out; obtain ⟨hcz22_0, hcz22_1, hcz22_2, hcz22_3⟩ := zc4 BK263; obtain ⟨hfz22_0, hfz22_1, hfz22_2, hfz22_3⟩ := zf4 BK263; obtain ⟨hcz23_0, hcz23_1, hcz23_2⟩ := zc3 BK264; obtain ⟨hfz23_0, hfz23_1, hfz23_2⟩ := zf3 BK264) | ((with_reducible refine gate_callee (f := 86) rfl ?_); refine zgl 17 Tryz.func86 #[.agg #[.bool a1_0, .int .u64 a1_1, .int .u64 a1_2], .int .i64 a0_3] ?_; (with_reducible refine (address_mask.calls a1_0 a1_1 a1_2 a0_3 t265 t266 _ A9.out).mono ?_); rintro e w24 ⟨rfl, hb⟩; refine ⟨_, rfl, ?_⟩; replace BK263 := zkb BK263 hb; replace BK264 := zkb BK264 hb; replace HB := Aside0.mk (below_step (zB HB) hb); (try clear hb); obtain ⟨hcz25_0, hcz25_1, hcz25_2⟩ := zc3 BK264; obtain ⟨hfz25_0, hfz25_1, hfz25_2⟩ := zf3 BK264; obtain ⟨hcz26_0, hcz26_1, hcz26_2, hcz26_3⟩ := zc4 BK263; obtain ⟨hfz26_0, hfz26_1, hfz26_2, hfz26_3⟩ := zf4 BK263))
 go_ret
 exact ⟨zr, zB HB⟩
end Go.Proofs.YtnphnhkinjppjaaGreatDoor.Q
end

section
namespace Go.Proofs.YtnphnhkinjppjaaGreatDoor.Q
open Go.RowKit Go.Proofs.YtnphnhkinjppjaaGreatDoorW.PrintWords Go.Proofs.YtnphnhkinjppjaaGreatDoorW.PrintLast Go.Proofs.YtnphnhkinjppjaaGreatDoorW.PrintMore
def findBest (b0 : Bool) (b1 b2 : Int) : List S36 → S36 → Int → Option (S36)
  | [], best, _ => some best
  | x :: xs, best, bits =>
    if bits < x.f1.f1 then
      (address_Contains.f x.f1.f0.f0 x.f1.f0.f1 x.f1.f0.f2 x.f1.f1 b0 b1 b2).bind fun c =>
        if c = true then findBest b0 b1 b2 xs x x.f1.f1 else findBest b0 b1 b2 xs best bits
    else findBest b0 b1 b2 xs best bits
def asset_Find.f (l : List S36) (b0 : Bool) (b1 b2 : Int) : Option (S36) := findBest b0 b1 b2 l aDef (-1)
end Go.Proofs.YtnphnhkinjppjaaGreatDoor.Q
end

section
set_option maxHeartbeats 8000000
set_option maxRecDepth 100000
namespace Go.Proofs.YtnphnhkinjppjaaGreatDoor.Q
open Go.RowKit Go.Proofs.YtnphnhkinjppjaaGreatDoorW.PrintWords Go.Proofs.YtnphnhkinjppjaaGreatDoorW.PrintLast Go.Proofs.YtnphnhkinjppjaaGreatDoorW.PrintMore
theorem far12 {w : World} {g h : Nat} {o : Obj} {v0 v1 v2 v3 v4 v5 v6 v7 v8 v9 v10 v11 : Value} (hh : w.heap[h]? = some o) (hne : h ≠ g) : ((((((((((((w.setCell ⟨g, 0, none⟩ v0).setCell ⟨g, 1, none⟩ v1).setCell ⟨g, 2, none⟩ v2).setCell ⟨g, 3, none⟩ v3).setCell ⟨g, 4, none⟩ v4).setCell ⟨g, 5, none⟩ v5).setCell ⟨g, 6, none⟩ v6).setCell ⟨g, 7, none⟩ v7).setCell ⟨g, 8, none⟩ v8).setCell ⟨g, 9, none⟩ v9).setCell ⟨g, 10, none⟩ v10).setCell ⟨g, 11, none⟩ v11).heap[h]? = some o := by
  repeat (refine (Below.heap_setCell _ _ _ _ hne).trans ?_)
  exact hh
structure FindI (w wr : World) (ga gr gb : Nat) (l : List S36) (b0 : Bool) (b1 b2 : Int) (best : S36) (Ab : Option Addr) (cb : Nat) : Prop where
  bel : Below w.heap.size w wr
  adr : wr.heap[ga]? = some (.cells #[.bool b0, .int .u64 b1, .int .u64 b2] 31 (0, 0))
  res : wr.heap[gr]? = some (.cells as0 36 (0, 0))
  bst : wr.heap[gb]? = some (.cells (asC best (.slice Ab best.f8.length cb)) 36 (0, 0))
  svc : Kd.C k74 w Ab best.f8.length best.f8
  sml : best.f8.length < 1000000
theorem FindI.below {w W W1 : World} {ga gr gb : Nat} {l : List S36} {b0 : Bool} {b1 b2 : Int} {best : S36} {Ab : Option Addr} {cb : Nat} (h : FindI w W ga gr gb l b0 b1 b2 best Ab cb) (hb : Below W.heap.size W W1) : FindI w W1 ga gr gb l b0 b1 b2 best Ab cb := ⟨below_then h.bel h.bel.size hb, blk_below h.adr hb, blk_below h.res hb, blk_below h.bst hb, h.svc, h.sml⟩
theorem find_no {b0 : Bool} {b1 b2 : Int} {l : List S36} {i : Nat} {best : S36} {bits : Int} {o : Option (S36)} {a : S36} (hi : i < l.length) (ha : rd_T36 l (i : Int) = a) (h : findBest b0 b1 b2 (l.drop i) best bits = o) (hb : ¬ bits < a.f1.f1) : findBest b0 b1 b2 (l.drop (i + 1)) best bits = o := by
  rw [List.drop_eq_getElem_cons hi, findBest, ← tab_get hi, ha, if_neg hb] at h
  exact h
theorem find_yes {b0 : Bool} {b1 b2 : Int} {l : List S36} {i : Nat} {best : S36} {bits : Int} {r : S36} {a : S36} (hi : i < l.length) (ha : rd_T36 l (i : Int) = a) (h : findBest b0 b1 b2 (l.drop i) best bits = some r) (hb : bits < a.f1.f1) : ∃ c, address_Contains.f a.f1.f0.f0 a.f1.f0.f1 a.f1.f0.f2 a.f1.f1 b0 b1 b2 = some c ∧ (if c = true then findBest b0 b1 b2 (l.drop (i + 1)) a a.f1.f1 else findBest b0 b1 b2 (l.drop (i + 1)) best bits) = some r := by
  rw [List.drop_eq_getElem_cons hi, findBest, ← tab_get hi, ha, if_pos hb] at h
  exact Option.bind_eq_some_iff.mp h
theorem find_ok (w0 w : World) (p : Nat) (l : List S36) (v : Value) (b0 : Bool) (b1 b2 : Int) (r : S36) (hT : TabW w0 w p l v) (hl : l.length ≤ 1000) (hs : ∀ a ∈ l, a.f8.length < 1000000) (h : asset_Find.f l b0 b1 b2 = some r) :
    Calls Tryz.prog 27 #[.pointer (some ⟨p, 0, none⟩), .agg #[.bool b0, .int .u64 b1, .int .u64 b2]] w fun e w' => ∃ v', e = .returned (.agg (asC r v')) ∧ Kd.R k74 74 w' w.heap.size (fun _ => True) v' r.f8 ∧ Below w.heap.size w w' := by
  have hu := Tryz.underlying36
  have hu2 := Tryz.underlying93
  have hu3 := Tryz.underlying33
  have hu4 := Tryz.underlying31
  have hsz : (w.alloc (.cells #[.bool b0, .int .u64 b1, .int .u64 b2] 31)).heap.size = w.heap.size + 1 := by show (w.heap.push _).size = _; rw [Array.size_push]
  have HX : Aside0 ((w.alloc (.cells #[.bool b0, .int .u64 b1, .int .u64 b2] 31)).heap[w.heap.size]? = some (.cells #[.bool b0, .int .u64 b1, .int .u64 b2] 31 (0, 0))) := ⟨heap_alloc_new _ _⟩
  replace HX := Aside0.mk (blk_alloc HX.out (.cells as0 36))
  have HY : Aside0 (((w.alloc (.cells #[.bool b0, .int .u64 b1, .int .u64 b2] 31)).alloc (.cells as0 36)).heap[(w.alloc (.cells #[.bool b0, .int .u64 b1, .int .u64 b2] 31)).heap.size]? = some (.cells as0 36 (0, 0))) := ⟨heap_alloc_new _ _⟩
  have HB := Aside0.mk (below_alloc (below_alloc (Below.refl w.heap.size w) (.cells #[.bool b0, .int .u64 b1, .int .u64 b2] 31)) (.cells as0 36))
  rw [hsz] at HY
  clear hsz
  have HT := Aside0.mk (hT.below HB.out)
  have HT0 := Aside0.mk hT
  have HS := Aside0.mk hs
  have HH := Aside0.mk h
  obtain ⟨Al, cl, hv⟩ := Kd.R_slice hT.out
  subst hv
  obtain ⟨n, hn⟩ : ∃ n, l.length = n := ⟨_, rfl⟩
  have HC := Aside0.mk (Kd.R_reads' HT0.out.out).2.2
  rw [hn] at HT hl
  have HN := Aside0.mk hn
  have HL := Aside0.mk hl
  clear hT h hl hn hs HT0
  go_enter Tryz.func27, Tryz.ntmps27
  go_upto_region 1 with (fail)
  obtain ⟨ga, hga⟩ : ∃ x, w.heap.size = x := ⟨_, rfl⟩
  obtain ⟨gr, hgr⟩ : ∃ x, w.heap.size + 1 = x := ⟨_, rfl⟩
  have HG : Aside0 (w.heap.size ≤ ga ∧ w.heap.size ≤ gr ∧ ga < gr) := ⟨by omega⟩
  rw [hgr] at HY
  simp only [hgr]
  rw [hga] at HX
  simp only [hga]
  clear hgr hga
  change Code.wp _ _ _ _ ((w.alloc (.cells #[.bool b0, .int .u64 b1, .int .u64 b2] 31)).alloc (.cells as0 36))
  generalize (w.alloc (.cells #[.bool b0, .int .u64 b1, .int .u64 b2] 31)).alloc (.cells as0 36) = W1 at HX HY HB HT ⊢
  go_wp2_with fail
  refine (asset_Default.calls _ _ _ _ _ _ _ _ _ _ _ _ W1 rfl).mono ?_
  rintro e W2 ⟨v0, rfl, ho, hb⟩
  replace HT := Aside0.mk (HT.out.below hb)
  obtain ⟨A0, c0, hv0⟩ := Kd.R_slice ho
  subst hv0
  replace HX := Aside0.mk (blk_below HX.out hb)
  replace HY := Aside0.mk (blk_below HY.out hb)
  replace HB := Aside0.mk (below_then HB.out HB.out.size hb)
  have HK0 : Aside0 (Kd.C k74 w A0 aDef.f8.length aDef.f8) := ⟨rfl, by decide, fun h => absurd h (by decide)⟩
  clear ho hb
  have q0 := zc (Aside0.mk (blk_alloc HT.out.blk (.cells (asC aDef (.slice A0 aDef.f8.length c0)) 36))) 0
  go_upto_region 4 with (fail)
  have HD : Aside0 ((W2.alloc (.cells (asC aDef (.slice A0 aDef.f8.length c0)) 36)).heap[W2.heap.size]? = some (.cells (asC aDef (.slice A0 aDef.f8.length c0)) 36 (0, 0))) := ⟨heap_alloc_new _ _⟩
  have HF : Aside0 (FindI w (W2.alloc (.cells (asC aDef (.slice A0 aDef.f8.length c0)) 36)) ga gr W2.heap.size l b0 b1 b2 aDef A0 c0) := ⟨below_alloc HB.out _, blk_alloc HX.out _, blk_alloc HY.out _, HD.out, HK0.out, by decide⟩
  have HG2 : Aside0 (ga < W2.heap.size ∧ gr < W2.heap.size ∧ w.heap.size ≤ W2.heap.size) := ⟨blk_lt HX.out, blk_lt HY.out, HB.out.size⟩
  clear HX HY HB HT HK0 HD
  obtain ⟨gb, hgb⟩ : ∃ x, W2.heap.size = x := ⟨_, rfl⟩
  rw [hgb] at HF HG2
  simp only [hgb]
  clear hgb
  change Code.wp _ _ _ _ (W2.alloc (.cells (asC aDef (.slice A0 aDef.f8.length c0)) 36))
  generalize W2.alloc (.cells (asC aDef (.slice A0 aDef.f8.length c0)) 36) = W3 at HF q0 ⊢
  go_upto_region 5 with (fail)
  clear q0
  go_loopg [6, 18] (n + 1) (fun gg v6 v18 wr => ∃ (i : Nat) (best : S36) (bits : Int) (Ab : Option Addr) (cb : Nat), v18 = .int .i64 (i : Int) ∧ v6 = .int .i64 bits ∧ Aside0 (gg + i = n + 1 ∧ i ≤ n) ∧ Aside0 (findBest b0 b1 b2 (l.drop i) best bits = some r) ∧ Aside0 (FindI w wr ga gr gb l b0 b1 b2 best Ab cb))
  case atStart => exact ⟨0, aDef, -1, A0, c0, rfl, rfl, ⟨by omega, by omega⟩, ⟨HH.out⟩, HF⟩
  case round =>
    clear HF HH W3
    obtain ⟨i, best, bits, Ab, cb, rfl, rfl, HI, HE, HF⟩ := hrel
    by_cases hi : i < n
    · have HII := Aside0.mk hi
      have b1' : decide ((i : Int) < (n : Int)) = true := decide_eq_true (by omega)
      have b2' : decide (i < n) = true := decide_eq_true hi
      have b3 : n ≤ 1000000 := by have := HL.out; omega
      obtain ⟨ad, Ax, cx, rfl, k0, k1, k2, k3, k4, k5, k6, k7, k8, k9, k10, k11, kl, kc⟩ := at_T36 HC.out (i : Int) (by omega) (by rw [HN.out]; omega)
      replace k0 := pw_cell_below HF.out.bel k0
      replace k1 := pw_cell_below HF.out.bel k1
      replace k2 := pw_cell_below HF.out.bel k2
      replace k3 := pw_cell_below HF.out.bel k3
      replace k4 := pw_cell_below HF.out.bel k4
      replace k5 := pw_cell_below HF.out.bel k5
      replace k6 := pw_cell_below HF.out.bel k6
      replace k7 := pw_cell_below HF.out.bel k7
      replace k8 := pw_cell_below HF.out.bel k8
      replace k9 := pw_cell_below HF.out.bel k9
      replace k10 := pw_cell_below HF.out.bel k10
      replace k11 := pw_cell_below HF.out.bel k11
      simp only [Int.toNat_natCast] at k0 k1 k2 k3 k4 k5 k6 k7 k8 k9 k10 k11
      have HSM : Aside0 ((rd_T36 l (i : Int)).f8.length < 1000000) := ⟨HS.out _ (tab_mem (by rw [HN.out]; exact hi))⟩
      obtain ⟨a, ha⟩ : ∃ a, rd_T36 l (i : Int) = a := ⟨_, rfl⟩
      rw [ha] at k0 k1 k2 k3 k4 k5 k6 k7 k8 k9 k10 k11 kl kc HSM
      have HAA := Aside0.mk ha
      have HKC := Aside0.mk kc
      clear kl kc ha
      go_upto_region 7 with (fail)
      clear hi
      obtain ⟨gx, hgx⟩ : ∃ x, wr.heap.size = x := ⟨_, rfl⟩
      have HA : Aside0 ((wr.alloc (.cells (asC a (.slice Ax a.f8.length cx)) 36)).heap[wr.heap.size]? = some (.cells (asC a (.slice Ax a.f8.length cx)) 36 (0, 0))) := ⟨heap_alloc_new _ _⟩
      have HNE : Aside0 (gb ≠ wr.heap.size) := ⟨by have := blk_lt HF.out.bst; omega⟩
      rw [hgx] at HA HNE
      simp only [hgx]
      clear hgx k0 k1 k2 k3 k4 k5 k6 k7 k8 k9 k10 k11
      replace HF := Aside0.mk (HF.out.below (below_alloc (Below.refl _ _) (.cells (asC a (.slice Ax a.f8.length cx)) 36)))
      change Code.wp _ _ _ _ (wr.alloc (.cells (asC a (.slice Ax a.f8.length cx)) 36))
      generalize wr.alloc (.cells (asC a (.slice Ax a.f8.length cx)) 36) = W1 at HA HF ⊢
      obtain ⟨d0, d1, d2, d3, d4, d5, d6, d7, d8, d9, d10, d11⟩ := zc12 HA
      obtain ⟨q0, q1, q2⟩ := zc3 (Aside0.mk HF.out.adr)
      have hi2 : i < n := HII.out
      have HI1 : Aside0 ((n - i) + (i + 1) = n + 1 ∧ i + 1 ≤ n) := ⟨by have := HII.out; omega, HII.out⟩
      by_cases hb : bits < a.f1.f1
      · obtain ⟨c, hc, hcs⟩ := find_yes (by rw [HN.out]; exact hi2) HAA.out HE.out hb
        have HCC := Aside0.mk hc
        have HCS := Aside0.mk hcs
        have g1 : decide (bits < a.f1.f1) = true := decide_eq_true hb
        have g2 : decide (a.f1.f1 > bits) = true := decide_eq_true hb
        clear hc hcs
        go_wp2_with fail
        refine (address_Contains.calls _ _ _ _ _ _ _ c W1 HCC.out).mono ?_
        rintro e w2 ⟨rfl, hb2⟩
        replace HA := Aside0.mk (blk_below HA.out hb2)
        replace HF := Aside0.mk (HF.out.below hb2)
        clear hb2 d0 d1 d2 d3 d4 d5 d6 d7 d8 d9 d10 d11 q0 q1 q2
        cases c
        · have HCS2 : Aside0 (findBest b0 b1 b2 (l.drop (i + 1)) best bits = some r) := ⟨by have h := HCS.out; rwa [if_neg Bool.false_ne_true] at h⟩
          go_wp2
          go_roundg (n - i)
          case measure => have := HI.out.1; have := HII.out; omega
          case rel => exact ⟨i + 1, best, bits, Ab, cb, by (have := HII.out; go_num), rfl, HI1, HCS2, HF⟩
        · have HCS2 : Aside0 (findBest b0 b1 b2 (l.drop (i + 1)) a a.f1.f1 = some r) := ⟨by have h := HCS.out; rwa [if_pos rfl] at h⟩
          go_upto_region 8 with (fail)
          refine start_ (n := 6) (S := fun w' => w'.cell? ⟨gx, 0, none⟩ = some (.string a.f0) ∧ w'.cell? ⟨gx, 1, none⟩ = some (.bool a.f1.f0.f0) ∧ w'.cell? ⟨gx, 2, none⟩ = some (.int .u64 a.f1.f0.f1) ∧ w'.cell? ⟨gx, 3, none⟩ = some (.int .u64 a.f1.f0.f2) ∧ w'.cell? ⟨gx, 4, none⟩ = some (.int .i64 a.f1.f1) ∧ w'.cell? ⟨gx, 5, none⟩ = some (.int .i64 a.f2) ∧ w'.cell? ⟨gx, 6, none⟩ = some (.int .i64 a.f3) ∧ w'.cell? ⟨gx, 7, none⟩ = some (.int .i64 a.f4) ∧ w'.cell? ⟨gx, 8, none⟩ = some (.int .i64 a.f5) ∧ w'.cell? ⟨gx, 9, none⟩ = some (.bool a.f6) ∧ w'.cell? ⟨gx, 10, none⟩ = some (.int .i64 a.f7) ∧ w'.cell? ⟨gx, 11, none⟩ = some (.slice Ax a.f8.length cx)) (ds := []) #[false, false, false, false, false, false] (by kernel_rfl) rfl rfl ⟨zc (HA) 0, zc (HA) 1, zc (HA) 2, zc (HA) 3, zc (HA) 4, zc (HA) 5, zc (HA) 6, zc (HA) 7, zc (HA) 8, zc (HA) 9, zc (HA) 10, zc (HA) 11⟩ (fun hHeld => ?_)
          replace HF := Aside0.mk (HF.out.below (Below.drew (Below.refl _ _)))
          replace HA : Aside0 (w2.drew.heap[gx]? = some (.cells (asC a (.slice Ax a.f8.length cx)) 36 (0, 0))) := ⟨HA.out⟩
          generalize w2.drew = W4 at HA HF hHeld ⊢
          refine zt0 0 33 hHeld ?_; refine zp0 1 34 ?_; refine zp0 2 35 ?_; refine zt0 3 36 hHeld ?_
          have HBST := Aside0.mk HF.out.bst
          obtain ⟨d0, d1, d2, d3, d4, d5, d6, d7, d8, d9, d10, d11⟩ := zc12 HBST
          obtain ⟨f0, f1, f2, f3, f4, f5, f6, f7, f8, f9, f10, f11⟩ := zf12 HBST
          refine one_ (i := 4) (N := none) #[true, true, true, true, true, false] rfl rfl (by kernel_rfl) (by decide) (fun K hK => ?_)
          refine skip_ (w1 := ?_) (by rfl) rfl ?_ ?_
          rotate_left
          · go_simp
            rfl
          have HA4 := Aside0.mk (far12 (v0 := .string a.f0) (v1 := .bool a.f1.f0.f0) (v2 := .int .u64 a.f1.f0.f1) (v3 := .int .u64 a.f1.f0.f2) (v4 := .int .i64 a.f1.f1) (v5 := .int .i64 a.f2) (v6 := .int .i64 a.f3) (v7 := .int .i64 a.f4) (v8 := .int .i64 a.f5) (v9 := .bool a.f6) (v10 := .int .i64 a.f7) (v11 := .slice Ax a.f8.length cx) HA.out (Ne.symm HNE.out))
          refine hK.out _ _ ⟨zc (HA4) 0, zc (HA4) 1, zc (HA4) 2, zc (HA4) 3, zc (HA4) 4, zc (HA4) 5, zc (HA4) 6, zc (HA4) 7, zc (HA4) 8, zc (HA4) 9, zc (HA4) 10, zc (HA4) 11⟩ (fun hHeld => ?_)
          clear hK K d0 d1 d2 d3 d4 d5 d6 d7 d8 d9 d10 d11 f0 f1 f2 f3 f4 f5 f6 f7 f8 f9 f10 f11 HA4
          refine zp0 5 6 ?_
          refine zd0 ?_
          have HF2 : Aside0 (FindI w _ ga gr gb l b0 b1 b2 a Ax cx) := ⟨below12 HF.out.bel (by have := HG2.out; omega), far12 HF.out.adr (by have := HG2.out; omega), far12 HF.out.res (by have := HG2.out; omega), put12 HF.out.bst, HKC.out, HSM.out⟩
          go_wp2
          go_roundg (n - i)
          case measure => have := HI.out.1; have := HII.out; omega
          case rel => exact ⟨i + 1, a, a.f1.f1, Ax, cx, by (have := HII.out; go_num), rfl, HI1, HCS2, HF2⟩
      · have HCS2 := Aside0.mk (find_no (by rw [HN.out]; exact hi2) HAA.out HE.out hb)
        have g1 : decide (bits < a.f1.f1) = false := decide_eq_false hb
        have g2 : decide (a.f1.f1 > bits) = false := decide_eq_false hb
        go_wp2
        go_roundg (n - i)
        case measure => have := HI.out.1; have := HII.out; omega
        case rel => exact ⟨i + 1, best, bits, Ab, cb, by (have := HII.out; go_num), rfl, HI1, HCS2, HF⟩
    · have b1' : decide ((i : Int) < (n : Int)) = false := decide_eq_false (by omega)
      have b2' : decide (i < n) = false := decide_eq_false hi
      have HR : Aside0 (best = r) := ⟨by have h := HE.out; rw [List.drop_of_length_le (by rw [HN.out]; omega), findBest] at h; exact Option.some.inj h⟩
      obtain ⟨d0, d1, d2, d3, d4, d5, d6, d7, d8, d9, d10, d11⟩ := zc12 (Aside0.mk HF.out.bst)
      have HGR : Aside0 (w.heap.size ≤ gr) := ⟨HG.out.2.1⟩
      go_wp2_with fail
      refine (clone_walk' best Ab cb wr (Kd.C_below HF.out.svc HF.out.bel) HF.out.sml).mono ?_
      rintro e w5 ⟨g, rfl, ho, hb⟩
      clear d0 d1 d2 d3 d4 d5 d6 d7 d8 d9 d10 d11
      have HO := Aside0.mk ho
      have HSZ := Aside0.mk HF.out.bel.size
      have HY5 := Aside0.mk (blk_below HF.out.res hb)
      have HB5 := Aside0.mk (below_then HF.out.bel HF.out.bel.size hb)
      clear ho hb HF
      obtain ⟨f0, f1, f2, f3, f4, f5, f6, f7, f8, f9, f10, f11⟩ := zf12 HY5
      obtain ⟨x0, x1, x2, x3, x4, x5, x6, x7, x8, x9, x10, x11⟩ := zc12 HY5
      go_wp2
      refine bodyPost_ret (results_cell_row rfl _ _ gr 36 (asC best (.slice (some ⟨g, 0, none⟩) best.f8.length best.f8.length)) (0, 0) _ rfl (put12 HY5.out) Tryz.underlying36 rfl (by kernel_rfl)) rfl ?_
      refine ⟨.slice (some ⟨g, 0, none⟩) best.f8.length best.f8.length, by rw [HR.out], ?_, below12 HB5.out HGR.out⟩
      rw [← HR.out]
      exact putR HY5.out (Kd.R_lower HO.out HSZ.out)
def lvA : S36 := ⟨⟨#[97]⟩, ⟨⟨false, 0, 167772160⟩, 8⟩, 1, 1, 0, 8192, false, 2, []⟩
def lvB : S36 := ⟨⟨#[98]⟩, ⟨⟨false, 0, 167772160⟩, 24⟩, 1, 1, 0, 8192, false, 1, [⟨6, 80, 1⟩]⟩
def lvL : List S36 := [lvA, lvB]
def lvT1 : ByteArray := (⟨#[104, 111, 115, 116, 32, 97, 32, 49, 48, 46, 48, 46, 48, 46, 48, 47, 56, 32, 118, 97, 108, 117, 101, 32, 50, 59, 32, 35, 32, 116, 101, 110, 10, 104, 111, 115, 116, 32, 98, 32, 49, 48, 46, 48, 46, 48, 46, 48, 47, 50, 52, 32, 115, 101, 114, 118, 105, 99, 101, 32, 116, 99, 112, 32, 56, 48, 32, 104, 116, 116, 112, 59]⟩ : ByteArray)
def lvT2 : ByteArray := (⟨#[104, 111, 115, 116, 32, 97, 32, 49, 48, 46, 48, 46, 48, 46, 48, 47, 56, 32, 115, 112, 101, 101, 100, 32, 51, 59]⟩ : ByteArray)
def lvT3 : ByteArray := (⟨#[104, 111, 115, 116, 32, 97, 32, 49, 48, 46, 48, 46, 48, 46, 48, 47, 56, 32, 118, 97, 108, 117, 101, 32, 50, 59, 10]⟩ : ByteArray)
theorem lives18.e1 : asset_Parse.f 200 lvT1 = some (lvL, 0, 0) := by kernel_rfl
theorem lives18.e2 : asset_Parse.f 200 lvT2 = some ([], 15, 18) := by kernel_rfl
theorem lives18.e3 : asset_Check.f 200 lvL = some 0 := by kernel_rfl
theorem lives18.e4 : asset_App.f 200 lvB.f0 lvB.f1.f0.f0 lvB.f1.f0.f1 lvB.f1.f0.f2 lvB.f1.f1 lvB.f2 lvB.f3 lvB.f4 lvB.f5 lvB.f6 lvB.f7 lvB.f8 6 80 = some 1 := by kernel_rfl
theorem lives18.e5 : asset_Find.f lvL false 0 167772161 = some lvB := by kernel_rfl
theorem lives18.e6 : asset_Find.f lvL false 0 167837696 = some lvA := by kernel_rfl
theorem lives18.e7 : asset_Find.f lvL false 0 0 = some aDef := by kernel_rfl
theorem lives18.e8 : asset_Format.f 200 [lvA] = some lvT3 := by kernel_rfl
theorem lives18.e9 : asset_Check.f 200 [lvA, lvA] = some 7 := by kernel_rfl
theorem one_C {w : World} {A : Option Addr} {a b : S36} (h : Kd.C k36 w A 2 [a, b]) : Kd.C k36 w A 1 [a] := by
  obtain ⟨ad, e, hc⟩ := h.2.2 (by decide)
  refine ⟨rfl, by decide, fun _ => ⟨ad, e, fun j p hj => ?_⟩⟩
  match j, hj with
  | 0, hj => exact hc 0 p hj
  | j + 1, hj => simp at hj
theorem two_C {w : World} {A : Option Addr} {c base : Nat} {a : S36} {c0 : List Value} (ho : w.ownsRow base 36 12 (.slice A 2 c) 2 (c0 ++ c0)) (hl : c0.length = 12) (hK : (k36).K w a c0) : Kd.C k36 w A 2 [a, a] := by
  obtain ⟨ad, e, hc⟩ := q_cells (q_of_own ho) (by decide)
  refine ⟨rfl, by decide, fun _ => ⟨ad, e, fun j p hj => ?_⟩⟩
  match j, hj with
  | 0, hj =>
    cases Option.some.inj hj
    refine ⟨c0, hl, hK, fun i u hu => hc _ u ?_⟩
    rw [Nat.zero_mul, Nat.zero_add, List.getElem?_append_left (List.getElem?_eq_some_iff.mp hu).1]
    exact hu
  | 1, hj =>
    cases Option.some.inj hj
    refine ⟨c0, hl, hK, fun i u hu => hc _ u ?_⟩
    have e2 : 1 * (k36).sz + i = c0.length + i := by rw [hl, Nat.one_mul]; rfl
    rw [e2, List.getElem?_append_right (by omega), Nat.add_sub_cancel_left]
    exact hu
  | j + 2, hj => simp at hj
abbrev lvS (g : Nat) (Aa : Option Addr) (ca : Nat) (Ab : Option Addr) (cb : Nat) (w : World) : Prop := w.cell? ⟨g, 0, none⟩ = some (.string ⟨#[97]⟩) ∧ w.cell? ⟨g, 1, none⟩ = some (.bool false) ∧ w.cell? ⟨g, 2, none⟩ = some (.int .u64 0) ∧ w.cell? ⟨g, 3, none⟩ = some (.int .u64 167772160) ∧ w.cell? ⟨g, 4, none⟩ = some (.int .i64 8) ∧ w.cell? ⟨g, 5, none⟩ = some (.int .i64 1) ∧ w.cell? ⟨g, 6, none⟩ = some (.int .i64 1) ∧ w.cell? ⟨g, 7, none⟩ = some (.int .i64 0) ∧ w.cell? ⟨g, 8, none⟩ = some (.int .i64 8192) ∧ w.cell? ⟨g, 9, none⟩ = some (.bool false) ∧ w.cell? ⟨g, 10, none⟩ = some (.int .i64 2) ∧ w.cell? ⟨g, 11, none⟩ = some (.slice Aa 0 ca) ∧ w.cell? ⟨g, 12, none⟩ = some (.string ⟨#[98]⟩) ∧ w.cell? ⟨g, 13, none⟩ = some (.bool false) ∧ w.cell? ⟨g, 14, none⟩ = some (.int .u64 0) ∧ w.cell? ⟨g, 15, none⟩ = some (.int .u64 167772160) ∧ w.cell? ⟨g, 16, none⟩ = some (.int .i64 24) ∧ w.cell? ⟨g, 17, none⟩ = some (.int .i64 1) ∧ w.cell? ⟨g, 18, none⟩ = some (.int .i64 1) ∧ w.cell? ⟨g, 19, none⟩ = some (.int .i64 0) ∧ w.cell? ⟨g, 20, none⟩ = some (.int .i64 8192) ∧ w.cell? ⟨g, 21, none⟩ = some (.bool false) ∧ w.cell? ⟨g, 22, none⟩ = some (.int .i64 1) ∧ w.cell? ⟨g, 23, none⟩ = some (.slice Ab 1 cb)
theorem lvS.below {g : Nat} {Aa : Option Addr} {ca : Nat} {Ab : Option Addr} {cb : Nat} {w w1 : World} (h : lvS g Aa ca Ab cb w) (hb : Below w.heap.size w w1) : lvS g Aa ca Ab cb w1 := by
  obtain ⟨h0, h1, h2, h3, h4, h5, h6, h7, h8, h9, h10, h11, h12, h13, h14, h15, h16, h17, h18, h19, h20, h21, h22, h23⟩ := h
  exact ⟨pw_cell_below hb h0, pw_cell_below hb h1, pw_cell_below hb h2, pw_cell_below hb h3, pw_cell_below hb h4, pw_cell_below hb h5, pw_cell_below hb h6, pw_cell_below hb h7, pw_cell_below hb h8, pw_cell_below hb h9, pw_cell_below hb h10, pw_cell_below hb h11, pw_cell_below hb h12, pw_cell_below hb h13, pw_cell_below hb h14, pw_cell_below hb h15, pw_cell_below hb h16, pw_cell_below hb h17, pw_cell_below hb h18, pw_cell_below hb h19, pw_cell_below hb h20, pw_cell_below hb h21, pw_cell_below hb h22, pw_cell_below hb h23⟩
theorem lvS.of {w : World} {g : Nat} (h : Kd.C k36 w (some ⟨g, 0, none⟩) 2 lvL) : ∃ Aa ca Ab cb, lvS g Aa ca Ab cb w ∧ 1 ≤ cb ∧ Kd.C k74 w Aa 0 [] ∧ Kd.C k74 w Ab 1 lvB.f8 := by
  obtain ⟨ad, Aa, ca, he, a0, a1, a2, a3, a4, a5, a6, a7, a8, a9, a10, a11, al, ac⟩ := at_T36 h 0 (by decide) (by decide)
  cases Option.some.inj he
  obtain ⟨ad', Ab, cb, he, b0, b1, b2, b3, b4, b5, b6, b7, b8, b9, b10, b11, bl, bc⟩ := at_T36 h 1 (by decide) (by decide)
  cases Option.some.inj he
  exact ⟨Aa, ca, Ab, cb, ⟨a0, a1, a2, a3, a4, a5, a6, a7, a8, a9, a10, a11, b0, b1, b2, b3, b4, b5, b6, b7, b8, b9, b10, b11⟩, bl, ac, bc⟩
theorem fld_name (s : ByteArray) (x1 : Bool) (x2 x3 x4 x5 x6 x7 x8 : Int) (x9 : Bool) (x10 : Int) (v : Value) (w : World) : (Instr.field 36 (.agg #[.string s, .bool x1, .int .u64 x2, .int .u64 x3, .int .i64 x4, .int .i64 x5, .int .i64 x6, .int .i64 x7, .int .i64 x8, .bool x9, .int .i64 x10, v]) 0).run Tryz.prog w = .ok (.string s) w := by kernel_rfl
def w18_lives.f (k : Nat) : Option Bool := some true
theorem w18_lives.mono : ∀ k, LeO (w18_lives.f k) (w18_lives.f (k + 1)) := fun k => LeO.refl _
theorem w18_lives.calls (k : Nat) (r : Bool) (w : World) (h : w18_lives.f k = some r) (hW : WOK w) :
    Calls Tryz.prog 11 #[] w fun e w' => e = .returned (.bool r) ∧ Below w.heap.size w w' := by
  injection h with h
  subst h
  have hu := Tryz.underlying36
  have hu2 := Tryz.underlying22
  have hu3 := Tryz.underlying31
  have HW := Aside0.mk hW
  clear hW
  go_enter Tryz.func11, Tryz.ntmps11
  go_wp2_with fail
  refine (asset_Parse.calls 200 lvT1 _ _ _ w lives18.e1 HW.out).mono ?_
  rintro e w1 ⟨v, rfl, ho, hb⟩
  obtain ⟨g1, c1, hv, _⟩ := Kd.R_form ho (by decide)
  rw [show lvL.length = 2 from rfl] at hv
  subst hv
  have HC : Aside0 (Kd.C k36 w1 (some ⟨g1, 0, none⟩) 2 lvL) := ⟨(Kd.R_reads' ho).2.2⟩
  have HCAP : Aside0 (2 ≤ c1) := ⟨(Kd.R_reads' ho).2.1⟩
  have HB := Aside0.mk hb
  clear ho hb
  go_wp2_with fail
  refine (asset_Parse.calls 200 lvT2 _ _ _ w1 lives18.e2 (HW.out.below HB.out)).mono ?_
  rintro e w2 ⟨v, rfl, ho, hb⟩
  have HB1 : Aside0 (Below w1.heap.size w1 w2) := ⟨hb⟩
  clear ho hb
  go_wp2_with fail
  refine (new_ok 200 (some ⟨g1, 0, none⟩) c1 lvL w2 (Kd.C_below HC.out HB1.out) HCAP.out lives18.e3 (by decide) (by decide)).mono ?_
  rintro e w3 ⟨wn, p, v3, rfl, hbn, hT⟩
  have HB3 : Aside0 (Below w2.heap.size w2 w3) := ⟨below_then hbn hbn.size hT.bel⟩
  have HT := Aside0.mk hT
  have HBA := Aside0.mk (below_then HB.out HB.out.size (below_then HB1.out HB1.out.size HB3.out))
  replace HC := Aside0.mk (Kd.C_below HC.out (below_then HB1.out HB1.out.size HB3.out))
  replace HB := HBA
  clear HB1 HB3 HBA hbn hT
  obtain ⟨Aa, ca, Ab, cb, hS, hcb, ac, bc⟩ := lvS.of HC.out
  have HS := Aside0.mk hS
  have HAC := Aside0.mk ac
  have HBC := Aside0.mk bc
  clear hS ac bc
  have hfl := fld_name
  have hcap : 2 ≤ c1 := HCAP.out
  have hcapI : ((1 : Int) ≤ (c1 : Int)) = True := eq_true (by omega)
  go_upto_region 6 with (fail)
  refine start_ (n := 58) (S := fun w' => lvS g1 Aa ca Ab cb w') (ds := []) #[false, false, false, false, false, false, false, false, false, false, false, false, false, false, false, false, false, false, false, false, false, false, false, false, false, false, false, false, false, false, false, false, false, false, false, false, false, false, false, false, false, false, false, false, false, false, false, false, false, false, false, false, false, false, false, false, false, false] (by kernel_rfl) rfl rfl (lvS.below HS.out (below_drew (Below.refl _ _))) (fun hHeld => ?_)
  replace HC := Aside0.mk (Kd.C_drew HC.out)
  replace HAC := Aside0.mk (Kd.C_drew HAC.out)
  replace HBC := Aside0.mk (Kd.C_drew HBC.out)
  replace HB := Aside0.mk (below_drew HB.out)
  replace HT := Aside0.mk (HT.out.below (below_drew (Below.refl _ _)))
  clear HS
  generalize w3.drew = W3 at HC HAC HBC HB HT hHeld ⊢
  refine zp0 0 51 ?_
  refine zp0 1 52 ?_
  refine zp0 2 53 ?_
  refine zt0 3 54 hHeld ?_
  refine zp0 4 55 ?_
  refine zp0 5 56 ?_
  refine zp0 6 57 ?_
  refine zp0 7 58 ?_
  refine zp0 8 59 ?_
  refine zt0 9 60 hHeld ?_
  refine zp0 10 61 ?_
  refine zp0 11 62 ?_
  refine zp0 12 63 ?_
  refine zp0 13 64 ?_
  refine zp0 14 65 ?_
  refine zt0 15 66 hHeld ?_
  refine zo0 16 67 (fun K hK => ?_)
  refine zg Tryz.func19 #[.agg #[.string ⟨#[98]⟩, .bool false, .int .u64 0, .int .u64 167772160, .int .i64 24, .int .i64 1, .int .i64 1, .int .i64 0, .int .i64 8192, .bool false, .int .i64 1, .slice Ab 1 cb], .int .i64 6, .int .i64 80] ?_
  refine (asset_App.calls 200 lvB.f0 lvB.f1.f0.f0 lvB.f1.f0.f1 lvB.f1.f0.f2 lvB.f1.f1 lvB.f2 lvB.f3 lvB.f4 lvB.f5 lvB.f6 lvB.f7 Ab cb lvB.f8 6 80 1 W3 HBC.out hcb lives18.e4).mono ?_
  rintro e W4 ⟨rfl, hb⟩
  refine ⟨.int .i64 1, rfl, ?_⟩
  replace HC := Aside0.mk (Kd.C_below HC.out hb)
  replace HAC := Aside0.mk (Kd.C_below HAC.out hb)
  replace HBC := Aside0.mk (Kd.C_below HBC.out hb)
  replace HB := Aside0.mk (below_then HB.out HB.out.size hb)
  replace HT := Aside0.mk (HT.out.below hb)
  refine hK.out _ _ (lvS.below hHeld hb) (fun hHeld => ?_)
  clear hK K hb
  refine zn 67 ?_
  refine zp0 17 68 ?_
  refine zp0 18 69 ?_
  refine zp0 19 70 ?_
  refine zp0 20 71 ?_
  refine zp0 21 72 ?_
  refine zo0 22 73 (fun K hK => ?_)
  refine zg Tryz.func27 #[.pointer (some ⟨p, 0, none⟩), .agg #[.bool false, .int .u64 0, .int .u64 167772161]] ?_
  refine (find_ok wn W4 p lvL v3 false 0 167772161 lvB HT.out (by decide) (by decide) lives18.e5).mono ?_
  rintro e W5 ⟨v122, rfl, _, hb⟩
  refine ⟨.agg #[.string ⟨#[98]⟩, .bool false, .int .u64 0, .int .u64 167772160, .int .i64 24, .int .i64 1, .int .i64 1, .int .i64 0, .int .i64 8192, .bool false, .int .i64 1, v122], rfl, ?_⟩
  replace HC := Aside0.mk (Kd.C_below HC.out hb)
  replace HAC := Aside0.mk (Kd.C_below HAC.out hb)
  replace HBC := Aside0.mk (Kd.C_below HBC.out hb)
  replace HB := Aside0.mk (below_then HB.out HB.out.size hb)
  replace HT := Aside0.mk (HT.out.below hb)
  refine hK.out _ _ (lvS.below hHeld hb) (fun hHeld => ?_)
  clear hK K hb
  refine zn 73 ?_
  refine zp0 23 74 ?_
  refine zp0 24 75 ?_
  refine zp0 25 76 ?_
  refine zp0 26 77 ?_
  refine zp0 27 78 ?_
  refine zp0 28 79 ?_
  refine zo0 29 80 (fun K hK => ?_)
  refine zg Tryz.func27 #[.pointer (some ⟨p, 0, none⟩), .agg #[.bool false, .int .u64 0, .int .u64 167837696]] ?_
  refine (find_ok wn W5 p lvL v3 false 0 167837696 lvA HT.out (by decide) (by decide) lives18.e6).mono ?_
  rintro e W6 ⟨v129, rfl, _, hb⟩
  refine ⟨.agg #[.string ⟨#[97]⟩, .bool false, .int .u64 0, .int .u64 167772160, .int .i64 8, .int .i64 1, .int .i64 1, .int .i64 0, .int .i64 8192, .bool false, .int .i64 2, v129], rfl, ?_⟩
  replace HC := Aside0.mk (Kd.C_below HC.out hb)
  replace HAC := Aside0.mk (Kd.C_below HAC.out hb)
  replace HBC := Aside0.mk (Kd.C_below HBC.out hb)
  replace HB := Aside0.mk (below_then HB.out HB.out.size hb)
  replace HT := Aside0.mk (HT.out.below hb)
  refine hK.out _ _ (lvS.below hHeld hb) (fun hHeld => ?_)
  clear hK K hb
  refine zn 80 ?_
  refine zp0 30 81 ?_
  refine zp0 31 82 ?_
  refine zp0 32 83 ?_
  refine zp0 33 84 ?_
  refine zp0 34 85 ?_
  refine zp0 35 86 ?_
  refine zo0 36 87 (fun K hK => ?_)
  refine zg Tryz.func27 #[.pointer (some ⟨p, 0, none⟩), .agg #[.bool false, .int .u64 0, .int .u64 0]] ?_
  refine (find_ok wn W6 p lvL v3 false 0 0 aDef HT.out (by decide) (by decide) lives18.e7).mono ?_
  rintro e W7 ⟨v136, rfl, _, hb⟩
  refine ⟨.agg #[.string ⟨#[100, 101, 102, 97, 117, 108, 116]⟩, .bool false, .int .u64 0, .int .u64 0, .int .i64 0, .int .i64 1, .int .i64 1, .int .i64 0, .int .i64 8192, .bool false, .int .i64 1, v136], rfl, ?_⟩
  replace HC := Aside0.mk (Kd.C_below HC.out hb)
  replace HAC := Aside0.mk (Kd.C_below HAC.out hb)
  replace HBC := Aside0.mk (Kd.C_below HBC.out hb)
  replace HB := Aside0.mk (below_then HB.out HB.out.size hb)
  replace HT := Aside0.mk (HT.out.below hb)
  refine hK.out _ _ (lvS.below hHeld hb) (fun hHeld => ?_)
  clear hK K hb
  refine zn 87 ?_
  refine zp0 37 88 ?_
  refine zp0 38 89 ?_
  refine zp0 39 90 ?_
  refine zp0 40 91 ?_
  refine zp0 41 92 ?_
  refine zp0 42 93 ?_
  refine zo0 43 94 (fun K hK => ?_)
  refine zg Tryz.func14 #[.slice (some ⟨g1, 0, none⟩) 1 c1] ?_
  refine (asset_Format.calls 200 (some ⟨g1, 0, none⟩) c1 [lvA] lvT3 W7 (one_C HC.out) (Nat.le_of_succ_le hcap) lives18.e8 (HW.out.below HB.out)).mono ?_
  rintro e W8 ⟨rfl, hb⟩
  refine ⟨.string ⟨#[104, 111, 115, 116, 32, 97, 32, 49, 48, 46, 48, 46, 48, 46, 48, 47, 56, 32, 118, 97, 108, 117, 101, 32, 50, 59, 10]⟩, rfl, ?_⟩
  replace HC := Aside0.mk (Kd.C_below HC.out hb)
  replace HAC := Aside0.mk (Kd.C_below HAC.out hb)
  replace HBC := Aside0.mk (Kd.C_below HBC.out hb)
  replace HB := Aside0.mk (below_then HB.out HB.out.size hb)
  replace HT := Aside0.mk (HT.out.below hb)
  refine hK.out _ _ (lvS.below hHeld hb) (fun hHeld => ?_)
  clear hK K hb
  refine zn 94 ?_
  refine zp0 44 95 ?_
  refine zp0 45 96 ?_
  refine zp0 46 97 ?_
  refine zp0 47 98 ?_
  refine zp0 48 99 ?_
  refine zp0 49 100 ?_
  refine zp0 50 101 ?_
  refine zt0 51 102 hHeld ?_
  refine zo0 52 103 (fun K hK => ?_)
  refine value_ (w1 := ?_) (v := ?_) (by rfl) rfl ?_ ?_
  rotate_left 2
  · go_simp
    constructor
    · rfl
    · rfl
  have hb := below_alloc (Below.refl _ W8) (.cells #[.string ⟨#[97]⟩, .bool false, .int .u64 0, .int .u64 167772160, .int .i64 8, .int .i64 1, .int .i64 1, .int .i64 0, .int .i64 8192, .bool false, .int .i64 2, .slice Aa 0 ca] 36)
  refine hK.out _ _ (lvS.below hHeld hb) (fun hHeld => ?_)
  clear hK K
  refine zn 103 ?_
  have HN : Aside0 ((W8.alloc (.cells #[.string ⟨#[97]⟩, .bool false, .int .u64 0, .int .u64 167772160, .int .i64 8, .int .i64 1, .int .i64 1, .int .i64 0, .int .i64 8192, .bool false, .int .i64 2, .slice Aa 0 ca] 36)).heap[W8.heap.size]? = some (.cells #[.string ⟨#[97]⟩, .bool false, .int .u64 0, .int .u64 167772160, .int .i64 8, .int .i64 1, .int .i64 1, .int .i64 0, .int .i64 8192, .bool false, .int .i64 2, .slice Aa 0 ca] 36 (0, 0))) := ⟨heap_alloc_new _ _⟩
  replace HC := Aside0.mk (Kd.C_below HC.out hb)
  replace HAC := Aside0.mk (Kd.C_below HAC.out hb)
  replace HB := Aside0.mk (below_then HB.out HB.out.size hb)
  clear hb HT HBC
  generalize W8.heap.size = gn at HN ⊢
  generalize W8.alloc (.cells #[.string ⟨#[97]⟩, .bool false, .int .u64 0, .int .u64 167772160, .int .i64 8, .int .i64 1, .int .i64 1, .int .i64 0, .int .i64 8192, .bool false, .int .i64 2, .slice Aa 0 ca] 36) = U1 at HN HC HAC HB hHeld ⊢
  have hOld : ∀ j u, (#[.string ⟨#[97]⟩, .bool false, .int .u64 0, .int .u64 167772160, .int .i64 8, .int .i64 1, .int .i64 1, .int .i64 0, .int .i64 8192, .bool false, .int .i64 2, .slice Aa 0 ca] : Array Value).toList[j]? = some u → U1.cell? ((⟨g1, 0, none⟩ : Addr).add j) = some u := by
    intro j u hj
    obtain ⟨h0, h1, h2, h3, h4, h5, h6, h7, h8, h9, h10, h11, h12, h13, h14, h15, h16, h17, h18, h19, h20, h21, h22, h23⟩ := hHeld
    rcases j with _ | _ | _ | _ | _ | _ | _ | _ | _ | _ | _ | _ | j
    · cases Option.some.inj hj; exact h0
    · cases Option.some.inj hj; exact h1
    · cases Option.some.inj hj; exact h2
    · cases Option.some.inj hj; exact h3
    · cases Option.some.inj hj; exact h4
    · cases Option.some.inj hj; exact h5
    · cases Option.some.inj hj; exact h6
    · cases Option.some.inj hj; exact h7
    · cases Option.some.inj hj; exact h8
    · cases Option.some.inj hj; exact h9
    · cases Option.some.inj hj; exact h10
    · cases Option.some.inj hj; exact h11
    · simp at hj
  have hNew : ∀ j u, (#[.string ⟨#[97]⟩, .bool false, .int .u64 0, .int .u64 167772160, .int .i64 8, .int .i64 1, .int .i64 1, .int .i64 0, .int .i64 8192, .bool false, .int .i64 2, .slice Aa 0 ca] : Array Value).toList[j]? = some u → U1.cell? ((⟨gn, 0, none⟩ : Addr).add j) = some u := fun j u hj => by
    rw [Addr.add_lit, Nat.zero_add, blk_cell HN.out j, ← Array.getElem?_toList]
    exact hj
  obtain ⟨v5, U2, hrun, hown, hgr⟩ := run_append_arg_grows (P := Tryz.prog) U1 22 22 36 _ _ 12 120 hu2 rfl rfl rfl rfl rfl (by decide) ⟨g1, 0, none⟩ 1 1 (#[.string ⟨#[97]⟩, .bool false, .int .u64 0, .int .u64 167772160, .int .i64 8, .int .i64 1, .int .i64 1, .int .i64 0, .int .i64 8192, .bool false, .int .i64 2, .slice Aa 0 ca] : Array Value).toList rfl hOld ⟨gn, 0, none⟩ 1 1 (#[.string ⟨#[97]⟩, .bool false, .int .u64 0, .int .u64 167772160, .int .i64 8, .int .i64 1, .int .i64 1, .int .i64 0, .int .i64 8192, .bool false, .int .i64 2, .slice Aa 0 ca] : Array Value).toList rfl hNew (by decide) (by decide) (by decide)
  obtain ⟨A5, c5, hv5, hc5⟩ := q_slice (q_of_own hown)
  subst hv5
  have HB5 := Aside0.mk ((Below.refl _ U1).grown hgr (Nat.le_refl _) (by simp))
  have hCC : Kd.C k36 U2 A5 2 [lvA, lvA] := two_C hown rfl (k36_mk U2 lvA (A11 := Aa) (c11 := ca) (Nat.zero_le _) (Kd.C_below HAC.out HB5.out))
  refine zo0 53 104 (fun K hK => ?_)
  refine value_ (w1 := U2) (v := .slice A5 2 c5) (by rfl) rfl ?_ ?_
  · simp [execOp, resolve, invoke, builtin, Act.eval, hrun, Result.andThen]
  refine hK.out _ _ (lvS.below hHeld HB5.out) (fun hHeld => ?_)
  clear hK K hrun hown hgr hOld hNew
  refine zn 104 ?_
  refine zo0 54 105 (fun K hK => ?_)
  refine zg Tryz.func12 #[.slice A5 2 c5] ?_
  refine (asset_Check.calls 200 A5 c5 [lvA, lvA] 7 U2 hCC hc5 lives18.e9).mono ?_
  rintro e U3 ⟨rfl, hb⟩
  refine ⟨.int .i64 7, rfl, ?_⟩
  refine hK.out _ _ (lvS.below hHeld hb) (fun hHeld => ?_)
  have HBE := Aside0.mk (below_then HB.out HB.out.size (below_then HB5.out HB5.out.size hb))
  clear hK K hb hCC HB HB5 HC HAC HN
  refine zn 105 ?_
  refine zp0 55 106 ?_
  refine zp0 56 107 ?_
  refine zp0 57 0 ?_
  refine zd0 ?_
  go_wp2
  go_ret
  exact ⟨rfl, HBE.out⟩
end Go.Proofs.YtnphnhkinjppjaaGreatDoor.Q
end
