/- The law AssetLongest answers true for every input and leaves its arguments as they were. No condition. (Part 5 of 5: the kit's printed words and walks, hand-made contracts and plain laws, joined in build order, without what the theorem does not reach.) -/
import Derived.ArgAppend
import Derived.Test.YtnphnhkinjppjaaGreatDoorRows
import Derived.ProofKit
import Derived.OpenShut
import Derived.LaidMore
import Derived.Lay
import Derived.SevenTiedAt
import Derived.Stop.Joined
import Derived.Lib.LaidTab
import Derived.Shelf.Vars
import Derived.HandedShaped
import Derived.WalkKit
import Derived.ShutString
import Derived.ChangeOld
import Derived.Below
import Derived.SizedLaws
import Derived.Carry
import Derived.Test.YtnphnhkinjppjaaGreatDoorTie
import Derived.Test.YtnphnhkinjppjaaGreatDoorCards
import Derived.Test.YtnphnhkinjppjaaGreatDoorGAssetLongest4
set_option linter.unusedVariables false
set_option linter.unusedSimpArgs false
section
set_option maxHeartbeats 8000000
set_option maxRecDepth 100000
namespace Go.Proofs.YtnphnhkinjppjaaGreatDoor.Q
open Go.RowKit Go.Proofs.YtnphnhkinjppjaaGreatDoorW.PrintWords Go.Proofs.YtnphnhkinjppjaaGreatDoorW.PrintLast Go.Proofs.YtnphnhkinjppjaaGreatDoorW.PrintMore
attribute [local go_sem] max2_int min2_int max_two min_two max_three min_three max_four min_four
def lexer_token.f (k : Nat) (a0 : ByteArray) (a1 : Int) : Option (Int × ByteArray × Int × Int × Int × Int) := if 0 ≤ a1 then (if a1 < (a0.size : Int) then ((lexer_inWord.f k (bt a0 a1)).bind fun t165 => (if t165 = true then ((lexer_while_at_lexer_inWord.f k a0 a1).bind fun t166 => (if (wrap64 (t166 - a1)) > 80 then (some (0, (⟨#[]⟩ : ByteArray), a1, 0, 3, a1)) else (if a1 ≤ t166 then (if t166 ≤ (a0.size : Int) then (some (1, a0.extract (a1 : Int).toNat (t166 : Int).toNat, a1, t166, 0, 0)) else (none)) else (none)))) else (if (bt a0 a1) = 36 then ((lexer_while_at_lexer_inName.f k a0 (wrap64 (a1 + 1))).bind fun t167 => (if 0 ≤ (wrap64 (a1 + 1)) then (if (wrap64 (a1 + 1)) ≤ t167 then (if t167 ≤ (a0.size : Int) then ((lexer_IsName.f k (a0.extract ((wrap64 (a1 + 1)) : Int).toNat (t167 : Int).toNat)).bind fun t168 => (if t168 = true then (some (3, a0.extract ((wrap64 (a1 + 1)) : Int).toNat (t167 : Int).toNat, a1, t167, 0, 0)) else (some (0, (⟨#[]⟩ : ByteArray), a1, 0, 5, a1)))) else (none)) else (none)) else (none))) else (if (bt a0 a1) = 34 then ((lexer_text.f k a0 (wrap64 (a1 + 1))).bind fun bt169 => (if bt169.2.2 = true then (if (bt169.1.size : Int) > 256 then (some (0, (⟨#[]⟩ : ByteArray), a1, 0, 3, a1)) else (some (2, bt169.1, a1, bt169.2.1, 0, 0))) else (some (0, (⟨#[]⟩ : ByteArray), a1, 0, 14, bt169.2.1)))) else ((lexer_mark.f k a0 a1).bind fun t172 => (if t172.toList = ([] : List UInt8) then (some (0, (⟨#[]⟩ : ByteArray), a1, 0, 14, a1)) else (some (4, t172, a1, wrap64 (a1 + (t172.size : Int)), 0, 0)))))))) else (none)) else (none)
theorem lexer_token.mono : ∀ a0 a1 k, LeO (lexer_token.f k a0 a1) (lexer_token.f (k + 1) a0 a1) := by
  intro a0 a1 k
  unfold lexer_token.f
  repeat' first
      | (with_reducible exact lexer_IsName.mono _ _)
      | (with_reducible exact lexer_inWord.mono _ _)
      | (with_reducible exact lexer_mark.mono _ _ _)
      | (with_reducible exact lexer_text.mono _ _ _)
      | (with_reducible exact lexer_while_at_lexer_inName.mono _ _ _)
      | (with_reducible exact lexer_while_at_lexer_inWord.mono _ _ _)
      | (with_reducible exact LeO.refl _)
      | (with_reducible exact LeO.none _)
      | (with_reducible refine LeO.ite ?_ ?_)
      | (with_reducible refine LeO.bind ?_ (fun _ => ?_))
theorem tk_put {w : World} {g : Nat} {t : TypeId} {u0 u1 u2 v0 v1 v2 : Value} (h : w.heap[g]? = some (.cells #[u0, u1, u2] t (0, 0))) : (((w.setCell ⟨g, 0, none⟩ v0).setCell ⟨g, 1, none⟩ v1).setCell ⟨g, 2, none⟩ v2).heap[g]? = some (.cells #[v0, v1, v2] t (0, 0)) := by
  refine blk_put (cs := #[v0, v1, u2]) ?_ 2 _ rfl
  refine blk_put (cs := #[v0, u1, u2]) ?_ 1 _ rfl
  refine blk_put (cs := #[u0, u1, u2]) ?_ 0 _ rfl
  exact h
theorem tk_below {w W : World} {g : Nat} {v0 v1 v2 : Value} (h : Below w.heap.size w W) (hg : w.heap.size ≤ g) : Below w.heap.size w (((W.setCell ⟨g, 0, none⟩ v0).setCell ⟨g, 1, none⟩ v1).setCell ⟨g, 2, none⟩ v2) := by
  repeat (refine below_set ?_ hg)
  exact h
structure TkI (w W : World) (gr gt : Nat) (u0 u1 u2 : Value) : Prop where
  res : W.heap[gr]? = some (.cells #[.int .i64 0, .string (⟨#[]⟩ : ByteArray), .int .i64 0] 84 (0, 0))
  tok : W.heap[gt]? = some (.cells #[u0, u1, u2] 84 (0, 0))
  bel : Below w.heap.size w W
  ger : w.heap.size ≤ gr
  get : w.heap.size ≤ gt
  ne : gr ≠ gt
theorem TkI.below {w W W1 : World} {gr gt : Nat} {u0 u1 u2 : Value} (h : TkI w W gr gt u0 u1 u2) (hb : Below W.heap.size W W1) : TkI w W1 gr gt u0 u1 u2 := ⟨blk_below h.res hb, blk_below h.tok hb, below_then h.bel h.bel.size hb, h.ger, h.get, h.ne⟩
theorem TkI.put0 {w W : World} {gr gt : Nat} {u0 u1 u2 : Value} (h : TkI w W gr gt u0 u1 u2) (v : Value) : TkI w (W.setCell ⟨gt, 0, none⟩ v) gr gt v u1 u2 := ⟨blk_far h.res h.ne _, blk_put h.tok 0 _ rfl, below_set h.bel h.get, h.ger, h.get, h.ne⟩
theorem TkI.put1 {w W : World} {gr gt : Nat} {u0 u1 u2 : Value} (h : TkI w W gr gt u0 u1 u2) (v : Value) : TkI w (W.setCell ⟨gt, 1, none⟩ v) gr gt u0 v u2 := ⟨blk_far h.res h.ne _, blk_put h.tok 1 _ rfl, below_set h.bel h.get, h.ger, h.get, h.ne⟩
theorem lexer_token.calls (k : Nat) (a0 : ByteArray) (a1 : Int) (r1 : Int) (r2 : ByteArray) (r3 : Int) (r4 : Int) (r5 : Int) (r6 : Int) (w : World) (h : lexer_token.f k a0 a1 = some (r1, r2, r3, r4, r5, r6)) :
 Calls Tryz.prog 102 #[.string a0, .int .i64 a1] w fun e w' => e = .returned (.tuple #[.agg #[.int .i64 r1, .string r2, .int .i64 r3], .int .i64 r4, .int .i64 r5, .int .i64 r6]) ∧ Below w.heap.size w w' := by
  have hu84 := Tryz.underlying84
  unfold lexer_token.f at h
  by_cases c3 : 0 ≤ a1
  rotate_left
  · rw [if_neg c3] at h; exact absurd h (by simp)
  rw [if_pos c3] at h
  by_cases c4 : a1 < (a0.size : Int)
  rotate_left
  · rw [if_neg c4] at h; exact absurd h (by simp)
  rw [if_pos c4] at h
  have q0 : decide (0 ≤ a1) = true := decide_eq_true c3
  have q1 : decide (a1 < (a0.size : Int)) = true := decide_eq_true c4
  have hlt : a1.toNat < a0.size := by omega
  have hbt := bt_at a0 a1 hlt
  have hin : 0 ≤ a1 ∧ a1 < (a0.size : Int) := ⟨c3, c4⟩
  have HH := Aside0.mk h
  clear h c3 c4
  go_enter Tryz.func102, Tryz.ntmps102
  go_upto_region 1 with (fail)
  have HR0 : Aside0 ((w.alloc (.cells #[.int .i64 0, .string (⟨#[]⟩ : ByteArray), .int .i64 0] 84)).heap[w.heap.size]? = some (.cells #[.int .i64 0, .string (⟨#[]⟩ : ByteArray), .int .i64 0] 84 (0, 0))) := ⟨heap_alloc_new _ _⟩
  have HB0 := Aside0.mk (below_alloc (Below.refl w.heap.size w) (.cells #[.int .i64 0, .string (⟨#[]⟩ : ByteArray), .int .i64 0] 84))
  obtain ⟨gr, hg⟩ : ∃ x, w.heap.size = x := ⟨_, rfl⟩
  have HG : Aside0 (w.heap.size ≤ gr) := ⟨by omega⟩
  rw [hg] at HR0
  simp only [hg]
  clear hg
  change Code.wp _ _ _ _ (w.alloc (.cells #[.int .i64 0, .string (⟨#[]⟩ : ByteArray), .int .i64 0] 84))
  generalize w.alloc (.cells #[.int .i64 0, .string (⟨#[]⟩ : ByteArray), .int .i64 0] 84) = W1 at HR0 HB0 ⊢
  go_upto_region 2 with (fail)
  have HT : Aside0 (TkI w (W1.alloc (.cells #[.int .i64 0, .string (⟨#[]⟩ : ByteArray), .int .i64 a1] 84)) gr W1.heap.size (.int .i64 0) (.string (⟨#[]⟩ : ByteArray)) (.int .i64 a1)) := ⟨blk_alloc HR0.out _, heap_alloc_new _ _, below_alloc HB0.out _, HG.out, HB0.out.size, by have := blk_lt HR0.out; omega⟩
  obtain ⟨gt, hg⟩ : ∃ x, W1.heap.size = x := ⟨_, rfl⟩
  rw [hg] at HT
  simp only [hg]
  clear hg HR0 HB0 HG
  change Code.wp _ _ _ _ (W1.alloc (.cells #[.int .i64 0, .string (⟨#[]⟩ : ByteArray), .int .i64 a1] 84))
  generalize W1.alloc (.cells #[.int .i64 0, .string (⟨#[]⟩ : ByteArray), .int .i64 a1] 84) = W2 at HT ⊢
  have h := HH.out
  clear HH
  replace h := Option.bind_eq_some_iff.mp h
  obtain ⟨iw, e1, h⟩ := h
  have E1 := Aside0.mk e1
  have HH := Aside0.mk h
  clear h e1
  go_wp2_with fail
  refine (lexer_inWord.calls k (bt a0 a1) iw W2 E1.out).mono ?_
  rintro e w3 ⟨rfl, hb⟩
  replace HT := Aside0.mk (HT.out.below hb.below)
  clear hb
  have h := HH.out
  clear HH
  cases iw
  rotate_left
  · rw [if_pos rfl] at h
    replace h := Option.bind_eq_some_iff.mp h
    obtain ⟨n, e2, h⟩ := h
    have E2 := Aside0.mk e2
    have HH := Aside0.mk h
    clear h e2
    go_wp2_with fail
    refine (lexer_while_at_lexer_inWord.calls k a0 a1 n w3 E2.out).mono ?_
    rintro e w4 ⟨rfl, hb⟩
    replace HT := Aside0.mk (HT.out.below hb.below)
    clear hb
    have h := HH.out
    clear HH
    by_cases c5 : wrap64 (n - a1) > 80
    · rw [if_pos c5] at h
      have c5a : decide (80 < wrap64 (n - a1)) = true := decide_eq_true c5
      clear c5
      simp only [Option.some.injEq, Prod.mk.injEq] at h
      obtain ⟨rfl, rfl, rfl, rfl, rfl, rfl⟩ := h
      obtain ⟨t0, t1, t2⟩ := zc3 (Aside0.mk HT.out.tok)
      obtain ⟨x0, x1, x2⟩ := zc3 (Aside0.mk HT.out.res)
      obtain ⟨f0, f1, f2⟩ := zf3 (Aside0.mk HT.out.res)
      go_wp2
      exact bodyPost_ret (results_list (rs := [.cell 4 84, .tmp 5, .tmp 6, .tmp 7]) rfl (by simp) (.cell gr 84 #[.int .i64 0, .string (⟨#[]⟩ : ByteArray), .int .i64 a1] (0, 0) _ rfl (tk_put HT.out.res) hu84 rfl (by kernel_rfl) (.tmp (.tmp (.tmp .nil))))) rfl ⟨rfl, tk_below HT.out.bel HT.out.ger⟩
    rw [if_neg c5] at h
    have c5a : decide (80 < wrap64 (n - a1)) = false := decide_eq_false c5
    clear c5
    by_cases c6 : a1 ≤ n
    rotate_left
    · rw [if_neg c6] at h; exact absurd h (by simp)
    rw [if_pos c6] at h
    by_cases c7 : n ≤ (a0.size : Int)
    rotate_left
    · rw [if_neg c7] at h; exact absurd h (by simp)
    rw [if_pos c7] at h
    have p0 : decide (a1 ≤ n) = true := decide_eq_true c6
    have p1 : decide (n ≤ (a0.size : Int)) = true := decide_eq_true c7
    have s0 := eq_true (of_decide_eq_true q0)
    have s1 := eq_true c6
    have s2 := eq_true c7
    have HH := Aside0.mk h
    clear h c6 c7
    go_upto_region 7 with (fail)
    refine start_ (n := 8) (S := fun w' => True) (ds := []) #[false, false, false, false, false, false, false, false] (by kernel_rfl) rfl rfl trivial (fun hHeld => ?_)
    replace HT := Aside0.mk (HT.out.below (below_drew (Below.refl _ _)))
    generalize World.drew _ = V1 at HT hHeld ⊢
    refine zp0 0 33 ?_
    refine zp0 1 34 ?_
    refine zp0 2 35 ?_
    refine zp0 3 36 ?_
    refine zp0 4 37 ?_
    refine one_ (i := 5) (N := none) #[true, true, true, true, true, true, false, false] rfl rfl (by kernel_rfl) (by decide) (fun K hK => ?_)
    obtain ⟨t0, t1, t2⟩ := zc3 (Aside0.mk HT.out.tok)
    obtain ⟨f0, f1, f2⟩ := zf3 (Aside0.mk HT.out.tok)
    refine skip_ (w1 := ?_) (by rfl) rfl ?_ ?_
    rotate_left
    · go_simp
      rfl
    refine hK.out _ _ trivial (fun hHeld => ?_)
    clear hK K t0 t1 t2 f0 f1 f2
    replace HT := Aside0.mk (HT.out.put0 (.int .i64 1))
    generalize World.setCell V1 _ _ = V2 at HT ⊢
    refine zp0 6 38 ?_
    refine one_ (i := 7) (N := none) #[true, true, true, true, true, true, true, true] rfl rfl (by kernel_rfl) (by decide) (fun K hK => ?_)
    obtain ⟨t0, t1, t2⟩ := zc3 (Aside0.mk HT.out.tok)
    obtain ⟨f0, f1, f2⟩ := zf3 (Aside0.mk HT.out.tok)
    refine skip_ (w1 := ?_) (by rfl) rfl ?_ ?_
    rotate_left
    · go_simp
      rfl
    refine hK.out _ _ trivial (fun hHeld => ?_)
    clear hK K t0 t1 t2 f0 f1 f2
    replace HT := Aside0.mk (HT.out.put1 (.string (a0.extract (a1 : Int).toNat (n : Int).toNat)))
    generalize World.setCell V2 _ _ = V3 at HT ⊢
    refine zd0 ?_
    have h := HH.out
    clear HH
    simp only [Option.some.injEq, Prod.mk.injEq] at h
    obtain ⟨rfl, rfl, rfl, rfl, rfl, rfl⟩ := h
    obtain ⟨t0, t1, t2⟩ := zc3 (Aside0.mk HT.out.tok)
    obtain ⟨x0, x1, x2⟩ := zc3 (Aside0.mk HT.out.res)
    obtain ⟨f0, f1, f2⟩ := zf3 (Aside0.mk HT.out.res)
    go_wp2
    exact bodyPost_ret (results_list (rs := [.cell 4 84, .tmp 5, .tmp 6, .tmp 7]) rfl (by simp) (.cell gr 84 #[.int .i64 1, .string (a0.extract (a1 : Int).toNat (n : Int).toNat), .int .i64 a1] (0, 0) _ rfl (tk_put HT.out.res) hu84 rfl (by kernel_rfl) (.tmp (.tmp (.tmp .nil))))) rfl ⟨rfl, tk_below HT.out.bel HT.out.ger⟩
  rw [if_neg Bool.false_ne_true] at h
  by_cases c36 : bt a0 a1 = 36
  · rw [if_pos c36] at h
    have c36a : (bt a0 a1 == 36) = true := beq_iff_eq.mpr c36
    clear c36
    replace h := Option.bind_eq_some_iff.mp h
    obtain ⟨n, e3, h⟩ := h
    have E3 := Aside0.mk e3
    have HH := Aside0.mk h
    clear h e3
    go_wp2_with fail
    refine (lexer_while_at_lexer_inName.calls k a0 (wrap64 (a1 + 1)) n w3 E3.out).mono ?_
    rintro e w4 ⟨rfl, hb⟩
    replace HT := Aside0.mk (HT.out.below hb.below)
    clear hb
    have h := HH.out
    clear HH
    by_cases c5 : 0 ≤ wrap64 (a1 + 1)
    rotate_left
    · rw [if_neg c5] at h; exact absurd h (by simp)
    rw [if_pos c5] at h
    by_cases c6 : wrap64 (a1 + 1) ≤ n
    rotate_left
    · rw [if_neg c6] at h; exact absurd h (by simp)
    rw [if_pos c6] at h
    by_cases c7 : n ≤ (a0.size : Int)
    rotate_left
    · rw [if_neg c7] at h; exact absurd h (by simp)
    rw [if_pos c7] at h
    have p2 : decide (0 ≤ wrap64 (a1 + 1)) = true := decide_eq_true c5
    have p0 : decide (wrap64 (a1 + 1) ≤ n) = true := decide_eq_true c6
    have p1 : decide (n ≤ (a0.size : Int)) = true := decide_eq_true c7
    have s0 := eq_true c5
    have s1 := eq_true c6
    have s2 := eq_true c7
    clear c5 c6 c7 c36a
    replace h := Option.bind_eq_some_iff.mp h
    obtain ⟨nm, e4, h⟩ := h
    have E4 := Aside0.mk e4
    have HH := Aside0.mk h
    clear h e4
    go_wp2_with fail
    refine (lexer_IsName.calls k (a0.extract ((wrap64 (a1 + 1)) : Int).toNat (n : Int).toNat) nm w4 E4.out).mono ?_
    rintro e w5 ⟨rfl, hb⟩
    replace HT := Aside0.mk (HT.out.below hb.below)
    clear hb
    have h := HH.out
    clear HH
    cases nm
    · rw [if_neg Bool.false_ne_true] at h
      simp only [Option.some.injEq, Prod.mk.injEq] at h
      obtain ⟨rfl, rfl, rfl, rfl, rfl, rfl⟩ := h
      obtain ⟨t0, t1, t2⟩ := zc3 (Aside0.mk HT.out.tok)
      obtain ⟨x0, x1, x2⟩ := zc3 (Aside0.mk HT.out.res)
      obtain ⟨f0, f1, f2⟩ := zf3 (Aside0.mk HT.out.res)
      go_wp2
      exact bodyPost_ret (results_list (rs := [.cell 4 84, .tmp 5, .tmp 6, .tmp 7]) rfl (by simp) (.cell gr 84 #[.int .i64 0, .string (⟨#[]⟩ : ByteArray), .int .i64 a1] (0, 0) _ rfl (tk_put HT.out.res) hu84 rfl (by kernel_rfl) (.tmp (.tmp (.tmp .nil))))) rfl ⟨rfl, tk_below HT.out.bel HT.out.ger⟩
    rw [if_pos rfl] at h
    have HH := Aside0.mk h
    clear h
    go_upto_region 13 with (fail)
    refine start_ (n := 9) (S := fun w' => True) (ds := []) #[false, false, false, false, false, false, false, false, false] (by kernel_rfl) rfl rfl trivial (fun hHeld => ?_)
    replace HT := Aside0.mk (HT.out.below (below_drew (Below.refl _ _)))
    generalize World.drew _ = V1 at HT hHeld ⊢
    refine zp0 0 57 ?_
    refine zp0 1 58 ?_
    refine zp0 2 59 ?_
    refine zp0 3 60 ?_
    refine zp0 4 61 ?_
    refine zp0 5 62 ?_
    refine one_ (i := 6) (N := none) #[true, true, true, true, true, true, true, false, false] rfl rfl (by kernel_rfl) (by decide) (fun K hK => ?_)
    obtain ⟨t0, t1, t2⟩ := zc3 (Aside0.mk HT.out.tok)
    obtain ⟨f0, f1, f2⟩ := zf3 (Aside0.mk HT.out.tok)
    refine skip_ (w1 := ?_) (by rfl) rfl ?_ ?_
    rotate_left
    · go_simp
      rfl
    refine hK.out _ _ trivial (fun hHeld => ?_)
    clear hK K t0 t1 t2 f0 f1 f2
    replace HT := Aside0.mk (HT.out.put0 (.int .i64 3))
    generalize World.setCell V1 _ _ = V2 at HT ⊢
    refine zp0 7 63 ?_
    refine one_ (i := 8) (N := none) #[true, true, true, true, true, true, true, true, true] rfl rfl (by kernel_rfl) (by decide) (fun K hK => ?_)
    obtain ⟨t0, t1, t2⟩ := zc3 (Aside0.mk HT.out.tok)
    obtain ⟨f0, f1, f2⟩ := zf3 (Aside0.mk HT.out.tok)
    refine skip_ (w1 := ?_) (by rfl) rfl ?_ ?_
    rotate_left
    · go_simp
      rfl
    refine hK.out _ _ trivial (fun hHeld => ?_)
    clear hK K t0 t1 t2 f0 f1 f2
    replace HT := Aside0.mk (HT.out.put1 (.string (a0.extract ((wrap64 (a1 + 1)) : Int).toNat (n : Int).toNat)))
    generalize World.setCell V2 _ _ = V3 at HT ⊢
    refine zd0 ?_
    have h := HH.out
    clear HH
    simp only [Option.some.injEq, Prod.mk.injEq] at h
    obtain ⟨rfl, rfl, rfl, rfl, rfl, rfl⟩ := h
    obtain ⟨t0, t1, t2⟩ := zc3 (Aside0.mk HT.out.tok)
    obtain ⟨x0, x1, x2⟩ := zc3 (Aside0.mk HT.out.res)
    obtain ⟨f0, f1, f2⟩ := zf3 (Aside0.mk HT.out.res)
    go_wp2
    exact bodyPost_ret (results_list (rs := [.cell 4 84, .tmp 5, .tmp 6, .tmp 7]) rfl (by simp) (.cell gr 84 #[.int .i64 3, .string (a0.extract ((wrap64 (a1 + 1)) : Int).toNat (n : Int).toNat), .int .i64 a1] (0, 0) _ rfl (tk_put HT.out.res) hu84 rfl (by kernel_rfl) (.tmp (.tmp (.tmp .nil))))) rfl ⟨rfl, tk_below HT.out.bel HT.out.ger⟩
  rw [if_neg c36] at h
  have c36a : (bt a0 a1 == 36) = false := beq_eq_false_iff_ne.mpr c36
  clear c36
  by_cases c34 : bt a0 a1 = 34
  · rw [if_pos c34] at h
    have c34a : (bt a0 a1 == 34) = true := beq_iff_eq.mpr c34
    clear c34
    replace h := Option.bind_eq_some_iff.mp h
    obtain ⟨⟨v, n, ok⟩, e5, h⟩ := h
    try dsimp only at e5 h
    have E5 := Aside0.mk e5
    have HH := Aside0.mk h
    clear h e5
    go_wp2_with fail
    refine (lexer_text.calls k a0 (wrap64 (a1 + 1)) v n ok w3 E5.out).mono ?_
    rintro e w4 ⟨rfl, hb⟩
    replace HT := Aside0.mk (HT.out.below hb)
    clear hb
    clear c36a c34a
    have h := HH.out
    clear HH
    cases ok
    · rw [if_neg Bool.false_ne_true] at h
      simp only [Option.some.injEq, Prod.mk.injEq] at h
      obtain ⟨rfl, rfl, rfl, rfl, rfl, rfl⟩ := h
      obtain ⟨t0, t1, t2⟩ := zc3 (Aside0.mk HT.out.tok)
      obtain ⟨x0, x1, x2⟩ := zc3 (Aside0.mk HT.out.res)
      obtain ⟨f0, f1, f2⟩ := zf3 (Aside0.mk HT.out.res)
      go_wp2
      exact bodyPost_ret (results_list (rs := [.cell 4 84, .tmp 5, .tmp 6, .tmp 7]) rfl (by simp) (.cell gr 84 #[.int .i64 0, .string (⟨#[]⟩ : ByteArray), .int .i64 a1] (0, 0) _ rfl (tk_put HT.out.res) hu84 rfl (by kernel_rfl) (.tmp (.tmp (.tmp .nil))))) rfl ⟨rfl, tk_below HT.out.bel HT.out.ger⟩
    rw [if_pos rfl] at h
    by_cases c8 : (v.size : Int) > 256
    · rw [if_pos c8] at h
      have c8a : decide (256 < (v.size : Int)) = true := decide_eq_true c8
      have c8b : decide (256 < v.size) = true := decide_eq_true (by omega)
      clear c8
      simp only [Option.some.injEq, Prod.mk.injEq] at h
      obtain ⟨rfl, rfl, rfl, rfl, rfl, rfl⟩ := h
      obtain ⟨t0, t1, t2⟩ := zc3 (Aside0.mk HT.out.tok)
      obtain ⟨x0, x1, x2⟩ := zc3 (Aside0.mk HT.out.res)
      obtain ⟨f0, f1, f2⟩ := zf3 (Aside0.mk HT.out.res)
      go_wp2
      exact bodyPost_ret (results_list (rs := [.cell 4 84, .tmp 5, .tmp 6, .tmp 7]) rfl (by simp) (.cell gr 84 #[.int .i64 0, .string (⟨#[]⟩ : ByteArray), .int .i64 a1] (0, 0) _ rfl (tk_put HT.out.res) hu84 rfl (by kernel_rfl) (.tmp (.tmp (.tmp .nil))))) rfl ⟨rfl, tk_below HT.out.bel HT.out.ger⟩
    rw [if_neg c8] at h
    have c8a : decide (256 < (v.size : Int)) = false := decide_eq_false c8
    have c8b : decide (256 < v.size) = false := decide_eq_false (by omega)
    clear c8
    obtain ⟨t0, t1, t2⟩ := zc3 (Aside0.mk HT.out.tok)
    obtain ⟨f0, f1, f2⟩ := zf3 (Aside0.mk HT.out.tok)
    have HH := Aside0.mk h
    clear h
    go_upto_region 22 with (fail)
    clear t0 t1 t2 f0 f1 f2
    replace HT := Aside0.mk ((HT.out.put0 (.int .i64 2)).put1 (.string v))
    generalize World.setCell (World.setCell _ _ _) _ _ = V3 at HT ⊢
    have h := HH.out
    clear HH
    simp only [Option.some.injEq, Prod.mk.injEq] at h
    obtain ⟨rfl, rfl, rfl, rfl, rfl, rfl⟩ := h
    obtain ⟨t0, t1, t2⟩ := zc3 (Aside0.mk HT.out.tok)
    obtain ⟨x0, x1, x2⟩ := zc3 (Aside0.mk HT.out.res)
    obtain ⟨f0, f1, f2⟩ := zf3 (Aside0.mk HT.out.res)
    go_wp2
    exact bodyPost_ret (results_list (rs := [.cell 4 84, .tmp 5, .tmp 6, .tmp 7]) rfl (by simp) (.cell gr 84 #[.int .i64 2, .string v, .int .i64 a1] (0, 0) _ rfl (tk_put HT.out.res) hu84 rfl (by kernel_rfl) (.tmp (.tmp (.tmp .nil))))) rfl ⟨rfl, tk_below HT.out.bel HT.out.ger⟩
  rw [if_neg c34] at h
  have c34a : (bt a0 a1 == 34) = false := beq_eq_false_iff_ne.mpr c34
  clear c34
  replace h := Option.bind_eq_some_iff.mp h
  obtain ⟨m, e6, h⟩ := h
  have E6 := Aside0.mk e6
  have HH := Aside0.mk h
  clear h e6
  go_wp2_with fail
  refine (lexer_mark.calls k a0 a1 m w3 E6.out).mono ?_
  rintro e w4 ⟨rfl, hb⟩
  replace HT := Aside0.mk (HT.out.below hb)
  clear hb
  clear c36a c34a
  have h := HH.out
  clear HH
  by_cases c9 : m.toList = ([] : List UInt8)
  · rw [if_pos c9] at h
    have c9a : (m.toList == ([] : List UInt8)) = true := beq_iff_eq.mpr c9
    have c9b : (m.toList != ([] : List UInt8)) = false := bne_eq_false_iff_eq.mpr c9
    clear c9
    simp only [Option.some.injEq, Prod.mk.injEq] at h
    obtain ⟨rfl, rfl, rfl, rfl, rfl, rfl⟩ := h
    obtain ⟨t0, t1, t2⟩ := zc3 (Aside0.mk HT.out.tok)
    obtain ⟨x0, x1, x2⟩ := zc3 (Aside0.mk HT.out.res)
    obtain ⟨f0, f1, f2⟩ := zf3 (Aside0.mk HT.out.res)
    go_wp2
    exact bodyPost_ret (results_list (rs := [.cell 4 84, .tmp 5, .tmp 6, .tmp 7]) rfl (by simp) (.cell gr 84 #[.int .i64 0, .string (⟨#[]⟩ : ByteArray), .int .i64 a1] (0, 0) _ rfl (tk_put HT.out.res) hu84 rfl (by kernel_rfl) (.tmp (.tmp (.tmp .nil))))) rfl ⟨rfl, tk_below HT.out.bel HT.out.ger⟩
  rw [if_neg c9] at h
  have c9a : (m.toList == ([] : List UInt8)) = false := beq_eq_false_iff_ne.mpr c9
  have c9b : (m.toList != ([] : List UInt8)) = true := bne_iff_ne.mpr c9
  clear c9
  obtain ⟨t0, t1, t2⟩ := zc3 (Aside0.mk HT.out.tok)
  obtain ⟨f0, f1, f2⟩ := zf3 (Aside0.mk HT.out.tok)
  have HH := Aside0.mk h
  clear h
  go_upto_region 26 with (fail)
  clear t0 t1 t2 f0 f1 f2
  replace HT := Aside0.mk ((HT.out.put0 (.int .i64 4)).put1 (.string m))
  generalize World.setCell (World.setCell _ _ _) _ _ = V3 at HT ⊢
  have h := HH.out
  clear HH
  simp only [Option.some.injEq, Prod.mk.injEq] at h
  obtain ⟨rfl, rfl, rfl, rfl, rfl, rfl⟩ := h
  obtain ⟨t0, t1, t2⟩ := zc3 (Aside0.mk HT.out.tok)
  obtain ⟨x0, x1, x2⟩ := zc3 (Aside0.mk HT.out.res)
  obtain ⟨f0, f1, f2⟩ := zf3 (Aside0.mk HT.out.res)
  go_wp2
  exact bodyPost_ret (results_list (rs := [.cell 4 84, .tmp 5, .tmp 6, .tmp 7]) rfl (by simp) (.cell gr 84 #[.int .i64 4, .string m, .int .i64 a1] (0, 0) _ rfl (tk_put HT.out.res) hu84 rfl (by kernel_rfl) (.tmp (.tmp (.tmp .nil))))) rfl ⟨rfl, tk_below HT.out.bel HT.out.ger⟩
def lexer_Scan.l0 : Nat → ByteArray → List (S84) → Int → Option ((List (S84)) × Int × Int)
  | 0, _, _, _ => none
  | k + 1, x0, x5, x6 => if x6 < (x0.size : Int) then ((lexer_token.f k x0 x6).bind fun bt177 => (if bt177.2.2.2.2.1 = 0 then (if x5.length < 4398046511104 then ((lexer_skip.f k x0 bt177.2.2.2.1).bind fun t187 => (lexer_Scan.l0 k x0 (x5 ++ [(⟨bt177.1, bt177.2.1, bt177.2.2.1⟩ : S84)]) t187)) else (none)) else (some (([] : List (S84)), bt177.2.2.2.2.1, bt177.2.2.2.2.2)))) else (if x5.length < 4398046511104 then (some ((x5 ++ [(⟨0, (⟨#[]⟩ : ByteArray), (x0.size : Int)⟩ : S84)]), 0, 0)) else (none))
def lexer_Scan.f (k : Nat) (a0 : ByteArray) : Option ((List (S84)) × Int × Int) := if (a0.size : Int) > 16000 then (some (([] : List (S84)), 3, 0)) else ((lexer_skip.f k a0 0).bind fun t173 => (lexer_Scan.l0 k a0 ([] : List (S84)) t173))
theorem lexer_Scan.mono_l : ∀ k, (∀ y0 y1 y2, LeO (lexer_Scan.l0 k y0 y1 y2) (lexer_Scan.l0 (k + 1) y0 y1 y2))
  | 0 => fun _ _ _ r h => by simp [lexer_Scan.l0] at h
  | k + 1 => by
    have ih0 := lexer_Scan.mono_l k
    · intro y0 y1 y2
      unfold lexer_Scan.l0
      repeat' first
      | (with_reducible exact ih0 _ _ _)
      | (with_reducible exact lexer_skip.mono _ _ _)
      | (with_reducible exact lexer_token.mono _ _ _)
      | (with_reducible exact LeO.refl _)
      | (with_reducible exact LeO.none _)
      | (with_reducible refine LeO.ite ?_ ?_)
      | (with_reducible refine LeO.bind ?_ (fun _ => ?_))
theorem lexer_Scan.mono : ∀ a0 k, LeO (lexer_Scan.f k a0) (lexer_Scan.f (k + 1) a0) := by
  intro a0 k
  have ih0 := lexer_Scan.mono_l k
  unfold lexer_Scan.f
  repeat' first
      | (with_reducible exact ih0 _ _ _)
      | (with_reducible exact lexer_skip.mono _ _ _)
      | (with_reducible exact lexer_token.mono _ _ _)
      | (with_reducible exact LeO.refl _)
      | (with_reducible exact LeO.none _)
      | (with_reducible refine LeO.ite ?_ ?_)
      | (with_reducible refine LeO.bind ?_ (fun _ => ?_))
theorem lexer_Scan.calls (k : Nat) (a0 : ByteArray) (r1 : List (S84)) (r2 : Int) (r3 : Int) (w : World) (h : lexer_Scan.f k a0 = some (r1, r2, r3)) :
 Calls Tryz.prog 68 #[.string a0] w fun e w' => ∃ v0_ : Value, e = .returned (.tuple #[v0_, .int .i64 r2, .int .i64 r3]) ∧ Kd.R k84 84 w' w.heap.size (fun _ => True) v0_ r1 ∧ Below w.heap.size w w' := by
 have hu84 := Tryz.underlying84
 have HB := Aside0.mk (Below.refl w.heap.size w)
 unfold lexer_Scan.f at h; have H := h
 clear h
 by_cases c2 : (a0.size : Int) > 16000
 · rw [if_pos c2] at H
   have c2b0 : decide (16000 < (a0.size : Int)) = true := decide_eq_true c2
   have c2b1 : decide (16000 < a0.size) = true := decide_eq_true (by omega)
   clear c2
   simp only [Option.some.injEq, Prod.mk.injEq] at H
   obtain ⟨rfl, rfl, rfl⟩ := H
   go_enter Tryz.func68, Tryz.ntmps68
   go_wp2
   go_ret3
   exact ⟨_, by first | rfl | (simp [errW_none, errW_some] <;> rfl) | (simp [*, errW_none, errW_some] <;> rfl), by first | exact Kd.R_nil _ _ _ _ _ | exact Kd.N_nil _ _ _ _ _ | exact Kd.V_nil _ _ _ _ _ | exact Kd.Q_nil _ _ _ _ _ | exact Kd.S_nil _ _ _ _ _, by repeat (first | (with_reducible first | exact HB.out | apply below_alloc | apply pw_below_drewN | apply below_drew1) | exact HB.out)⟩
 rw [if_neg c2] at H; have c2b0 : decide (16000 < (a0.size : Int)) = false := decide_eq_false c2
 have c2b1 : decide (16000 < a0.size) = false := decide_eq_false (by omega)
 clear c2
 replace H := Option.bind_eq_some_iff.mp H
 obtain ⟨t173, A30, H⟩ := H
 replace H : (lexer_Scan.l0 k a0 ([] : List (S84)) t173) = some (r1, r2, r3) := H
 have A3 := Aside0.mk A30; clear A30
 have H' := Aside0.mk H
 clear H
 go_enter Tryz.func68, Tryz.ntmps68
 go_wp2_with (first | ((with_reducible refine gate_callee (f := 101) rfl ?_); refine zgl 15 Tryz.func101 #[.string a0, .int .i64 0] ?_; (with_reducible refine (lexer_skip.calls k a0 0 t173 _ A3.out).mono ?_); rintro e w' ⟨rfl, ⟨nd, rfl⟩⟩; refine ⟨_, rfl, ?_⟩))
 go_loopg [5, 6] k (fun kq v5 v6 w' => ∃ (x5_1 : List (S84)) (x6_1 : Int), v6 = .int .i64 x6_1 ∧ Aside0 (lexer_Scan.l0 kq a0 x5_1 x6_1 = some (r1, r2, r3)) ∧ Aside0 (kq ≤ k) ∧ Aside0 (Kd.R k84 84 w' w.heap.size (fun _ => True) v5 x5_1) ∧ Aside0 (Below w.heap.size w w'))
 case atStart => exact ⟨(([] : List (S84))), (t173), zI, H', ⟨Nat.le_refl _⟩, ⟨by first | exact Kd.R_nil _ _ _ _ _ | exact Kd.N_nil _ _ _ _ _ | exact Kd.V_nil _ _ _ _ _ | exact Kd.Q_nil _ _ _ _ _ | exact Kd.S_nil _ _ _ _ _⟩, ⟨zB HB⟩⟩
 case round =>
  clear H'
  (try clear c2b0); (try clear c2b1)
  obtain ⟨x5_1, x6_1, rfl, HA, HK1, HO_5, HB⟩ := hrel
  rcases gk with _ | k1
  · exact absurd HA.out (by simp [lexer_Scan.l0])
  have H := HA.out
  clear HA
  simp only [lexer_Scan.l0] at H
  by_cases c4 : x6_1 < (a0.size : Int)
  · rw [if_pos c4] at H
    have c4b0 : decide (x6_1 < (a0.size : Int)) = true := decide_eq_true c4; clear c4
    replace H := Option.bind_eq_some_iff.mp H
    obtain ⟨⟨t177, t178, t179, t180, t181, t182⟩, A50, H⟩ := H
    replace H : (if t181 = 0 then (if x5_1.length < 4398046511104 then ((lexer_skip.f k1 a0 t180).bind fun t187 => (lexer_Scan.l0 k1 a0 (x5_1 ++ [(⟨t177, t178, t179⟩ : S84)]) t187)) else (none)) else (some (([] : List (S84)), t181, t182))) = some (r1, r2, r3) := H
    have A5 := Aside0.mk A50; clear A50
    by_cases c6 : t181 = 0
    · rw [if_pos c6] at H
      have c6b0 : (t181 == 0) = true := beq_iff_eq.mpr c6; have c6b1 : (t181 != 0) = false := bne_eq_false_iff_eq.mpr c6; clear c6
      by_cases c7 : x5_1.length < 4398046511104
      rotate_left
      · rw [if_neg c7] at H
        exact absurd H (by simp)
      rw [if_pos c7] at H; have LMc7 := Aside0.mk c7; clear c7
      obtain ⟨y184, hy184⟩ : ∃ y_ : List (S84), y_ = (x5_1 ++ [(⟨t177, t178, t179⟩ : S84)]) := ⟨_, rfl⟩
      rw [← hy184] at H; try dsimp only [Option.bind_some] at H
      have Ny184 := Aside0.mk hy184; clear hy184
      replace H := Option.bind_eq_some_iff.mp H
      obtain ⟨t187, A80, H⟩ := H
      replace H : (lexer_Scan.l0 k1 a0 y184 t187) = some (r1, r2, r3) := H
      have A8 := Aside0.mk A80; clear A80
      have H' := Aside0.mk H
      clear H
      go_wp2_with (first | ((with_reducible refine gate_callee (f := 102) rfl ?_); refine zgl 26 Tryz.func102 #[.string a0, .int .i64 x6_1] ?_; (with_reducible refine (lexer_token.calls k1 a0 x6_1 t177 t178 t179 t180 t181 t182 _ A5.out).mono ?_); rintro e w9 ⟨rfl, hb⟩; refine ⟨_, rfl, ?_⟩; replace HO_5 := Aside0.mk (Kd.R_below (zR HO_5) hb); replace HB := Aside0.mk (below_step (zB HB) hb); (try clear hb)) | ((with_reducible refine gate_dst (N := 7) rfl ?_); refine zx 7 #[.int .i64 0, .string (⟨#[]⟩ : ByteArray), .int .i64 0] 84 ?_; intro gb183 hg w10 hbox hb; replace HO_5 := Aside0.mk (Kd.R_below (Kd.R_elderB (zR HO_5) gb183 (Nat.le_of_eq hg.symm)) hb); have BK183 := Aside0.mk (hbox); have GW183 := zG HB hg; have GE183 := zG HB hg; replace HB := Aside0.mk (below_step (zB HB) hb); clear hb hbox hg; obtain ⟨hcz11_0, hcz11_1, hcz11_2⟩ := zc3 BK183; obtain ⟨hfz11_0, hfz11_1, hfz11_2⟩ := zf3 BK183) | ((with_reducible refine gate_builtin (b := .append) (xs := #[.tmp 35, .tmp 37]) rfl ?_); at_builtin; refine Kd.R_append k84 (w0 := w) w.heap.size rfl (.tmp 35) (.tmp 37) 86 84 (.agg #[(.int .i64 0), (.string ⟨#[]⟩), (.int .i64 0)]) 32 rfl Tryz.underlying86 info84 rfl (by decide) (by omega) u5 x5_1 (⟨t177, t178, t179⟩ : S84) [.int .i64 t177, .string t178, .int .i64 t179] (fun k_ => k_ ≠ gb183) (fun _ => False) rfl (by first | (go_simp; done) | (go_simp; rfl)) ?aP (fun _ hk => hk.elim) ?aF ?aO ?aB ?aS ?aL ?_; (case aP => exact k84_mkM _ _ _ (⟨t177, t178, t179⟩ : S84)); (case aB => exact (zB HB)); (case aF => exact (fun k_ hk => Kd.freshB (g := gb183) (o := .cells #[.int .i64 t177, .string t178, .int .i64 t179] 84 (0, 0)) (by refine zL ?_; refine blk_put (cs := #[.int .i64 t177, .string t178, .int .i64 0]) ?_ 2 _ rfl; refine zL ?_; refine blk_put (cs := #[.int .i64 t177, .string (⟨#[]⟩ : ByteArray), .int .i64 0]) ?_ 1 _ rfl; refine zL ?_; refine blk_put (cs := #[.int .i64 0, .string (⟨#[]⟩ : ByteArray), .int .i64 0]) ?_ 0 _ rfl; refine zL ?_; exact BK183.out) k_ hk)); (case aO => exact (by (with_reducible repeat (first | apply Kd.R_alloc | apply Kd.R_drewN | apply Kd.R_drew)); exact Kd.R_mono (Kd.R_far (p := ⟨gb183, 2, none⟩) (Kd.R_far (p := ⟨gb183, 1, none⟩) (Kd.R_far (p := ⟨gb183, 0, none⟩) (Kd.R_mono HO_5.out (fun k_ hk => (⟨hk, hk.2⟩ : _ ∧ k_ ≠ gb183))) (fun _ hk => hk.2) (.int .i64 t177)) (fun _ hk => hk.2) (.string t178)) (fun _ hk => hk.2) (.int .i64 t179)) (fun _ hk => hk.1.2))); (case aS => exact (below_size (zB HB))); (case aL => have := LMc7.out; omega); intro v185 w12 ho hb hg hat; rw [← Ny184.out] at ho; replace BK183 := Aside0.mk (blk_grown (g := gb183) (o := .cells #[.int .i64 t177, .string t178, .int .i64 t179] 84 (0, 0)) (by refine zL ?_; refine blk_put (cs := #[.int .i64 t177, .string t178, .int .i64 0]) ?_ 2 _ rfl; refine zL ?_; refine blk_put (cs := #[.int .i64 t177, .string (⟨#[]⟩ : ByteArray), .int .i64 0]) ?_ 1 _ rfl; refine zL ?_; refine blk_put (cs := #[.int .i64 0, .string (⟨#[]⟩ : ByteArray), .int .i64 0]) ?_ 0 _ rfl; refine zL ?_; exact BK183.out) hg (Kd.R_away HO_5.out (fun _ hk => hk.2))); replace HB := Aside0.mk (hb); have HO186 := Aside0.mk (ho); clear HO_5; clear ho hb hg hat) | ((with_reducible refine gate_callee (f := 101) rfl ?_); refine zgl 22 Tryz.func101 #[.string a0, .int .i64 t180] ?_; (with_reducible refine (lexer_skip.calls k1 a0 t180 t187 _ A8.out).mono ?_); rintro e w' ⟨rfl, ⟨nd, rfl⟩⟩; refine ⟨_, rfl, ?_⟩))
      go_roundg k1
      case measure => have := HK1.out; omega
      case rel => exact ⟨(y184), (t187), zI, H', ⟨by have := HK1.out; omega⟩, ⟨by (with_reducible repeat (first | apply Kd.R_alloc | apply Kd.R_drewN | apply Kd.R_drew)); exact Kd.R_mono HO186.out (fun _ hk => trivial)⟩, ⟨zB HB⟩⟩
    rw [if_neg c6] at H
    have c6b0 : (t181 == 0) = false := beq_eq_false_iff_ne.mpr c6
    have c6b1 : (t181 != 0) = true := bne_iff_ne.mpr c6
    simp only [Option.some.injEq, Prod.mk.injEq] at H
    obtain ⟨rfl, rfl, rfl⟩ := H
    go_wp2_with (first | ((with_reducible refine gate_callee (f := 102) rfl ?_); refine zgl 26 Tryz.func102 #[.string a0, .int .i64 x6_1] ?_; (with_reducible refine (lexer_token.calls k1 a0 x6_1 t177 t178 t179 t180 t181 t182 _ A5.out).mono ?_); rintro e w13 ⟨rfl, hb⟩; refine ⟨_, rfl, ?_⟩; replace HO_5 := Aside0.mk (Kd.R_below (zR HO_5) hb); replace HB := Aside0.mk (below_step (zB HB) hb); (try clear hb)) | ((with_reducible refine gate_dst (N := 7) rfl ?_); refine zx 7 #[.int .i64 0, .string (⟨#[]⟩ : ByteArray), .int .i64 0] 84 ?_; intro gb183 hg w14 hbox hb; replace HO_5 := Aside0.mk (Kd.R_below (Kd.R_elderB (zR HO_5) gb183 (Nat.le_of_eq hg.symm)) hb); have BK183 := Aside0.mk (hbox); have GW183 := zG HB hg; have GE183 := zG HB hg; replace HB := Aside0.mk (below_step (zB HB) hb); clear hb hbox hg; obtain ⟨hcz15_0, hcz15_1, hcz15_2⟩ := zc3 BK183; obtain ⟨hfz15_0, hfz15_1, hfz15_2⟩ := zf3 BK183))
    go_ret3
    exact ⟨_, by first | rfl | (simp [errW_none, errW_some] <;> rfl) | (simp [*, errW_none, errW_some] <;> rfl), by first | exact Kd.R_nil _ _ _ _ _ | exact Kd.N_nil _ _ _ _ _ | exact Kd.V_nil _ _ _ _ _ | exact Kd.Q_nil _ _ _ _ _ | exact Kd.S_nil _ _ _ _ _, by repeat (first | (with_reducible first | exact HB.out | apply below_alloc | apply pw_below_drewN | apply below_drew1 | refine below_set ?_ GE183.out) | exact HB.out)⟩
  rw [if_neg c4] at H
  have c4b0 : decide (x6_1 < (a0.size : Int)) = false := decide_eq_false c4; clear c4
  by_cases c16 : x5_1.length < 4398046511104
  · rw [if_pos c16] at H
    have LMc16 := Aside0.mk c16; clear c16
    obtain ⟨y174, hy174⟩ : ∃ y_ : List (S84), y_ = (x5_1 ++ [(⟨0, (⟨#[]⟩ : ByteArray), (a0.size : Int)⟩ : S84)]) := ⟨_, rfl⟩
    rw [← hy174] at H; try dsimp only [Option.bind_some] at H
    have Ny174 := Aside0.mk hy174; clear hy174
    simp only [Option.some.injEq, Prod.mk.injEq] at H
    obtain ⟨rfl, rfl, rfl⟩ := H
    go_wp2_with (first | ((with_reducible refine gate_builtin (b := .append) (xs := #[.tmp 40, .tmp 44]) rfl ?_); at_builtin; refine Kd.R_append k84 (w0 := w) w.heap.size rfl (.tmp 40) (.tmp 44) 86 84 (.agg #[(.int .i64 0), (.string ⟨#[]⟩), (.int .i64 0)]) 32 rfl Tryz.underlying86 info84 rfl (by decide) (by omega) u5 x5_1 (⟨0, (⟨#[]⟩ : ByteArray), (a0.size : Int)⟩ : S84) [.int .i64 0, .string (⟨#[]⟩ : ByteArray), .int .i64 (a0.size : Int)] (fun _ => True) (fun _ => False) rfl rfl ?aP (fun _ hk => hk.elim) ?aF ?aO ?aB ?aS ?aL ?_; (case aP => exact k84_mkM _ _ _ (⟨0, (⟨#[]⟩ : ByteArray), (a0.size : Int)⟩ : S84)); (case aB => exact (zB HB)); (case aF => exact (fun _ _ => trivial)); (case aO => exact (zR HO_5)); (case aS => exact (below_size (zB HB))); (case aL => have := LMc16.out; omega); intro v175 w17 ho hb hg hat; rw [← Ny174.out] at ho; replace HB := Aside0.mk (hb); have HO176 := Aside0.mk (ho); clear HO_5; clear ho hb hg hat))
    go_ret3
    exact ⟨_, by first | rfl | (simp [errW_none, errW_some] <;> rfl) | (simp [*, errW_none, errW_some] <;> rfl), by (with_reducible repeat (first | apply Kd.R_alloc | apply Kd.R_drewN | apply Kd.R_drew)); exact HO176.out, by repeat (first | (with_reducible first | exact HB.out | apply below_alloc | apply pw_below_drewN | apply below_drew1) | exact HB.out)⟩
  rw [if_neg c16] at H
  exact absurd H (by simp)
end Go.Proofs.YtnphnhkinjppjaaGreatDoor.Q
end

section
set_option maxHeartbeats 8000000
set_option maxRecDepth 100000
namespace Go.Proofs.YtnphnhkinjppjaaGreatDoor.Q
open Go.RowKit Go.Proofs.YtnphnhkinjppjaaGreatDoorW.PrintWords Go.Proofs.YtnphnhkinjppjaaGreatDoorW.PrintLast Go.Proofs.YtnphnhkinjppjaaGreatDoorW.PrintMore
theorem newcur_bad (k : Nat) (s : ByteArray) (L : List (S84)) (e0 at0 : Int) (w : World) (h : lexer_Scan.f k s = some (L, e0, at0)) (he : e0 ≠ 0) :
    Calls Tryz.prog 47 #[.string s] w fun e w' => e = .returned (.tuple #[.pointer none, .int .i64 e0, .int .i64 at0]) ∧ Below w.heap.size w w' := by
  have H := Aside0.mk h
  have c1 : (e0 != 0) = true := bne_iff_ne.mpr he
  clear h he
  go_enter Tryz.func47, Tryz.ntmps47
  go_wp2_with fail
  refine (lexer_Scan.calls k s L e0 at0 w H.out).mono ?_
  rintro e w2 ⟨v, rfl, ho, hb⟩
  have HB := Aside0.mk hb
  clear ho hb
  go_wp2
  go_ret3
  exact ⟨rfl, HB.out⟩
theorem newcur_ok (k : Nat) (s : ByteArray) (L : List (S84)) (at0 : Int) (w : World) (h : lexer_Scan.f k s = some (L, 0, at0)) (hp : L ≠ []) (hL : L.length ≤ 1000000) :
    Calls Tryz.prog 47 #[.string s] w fun e w' => ∃ (w1 : World) (g : Nat), e = .returned (.tuple #[.pointer (some ⟨g, 0, none⟩), .int .i64 0, .int .i64 0]) ∧ IsCur w1 w' g L 0 ∧ Below w.heap.size w w1 ∧ Below w1.heap.size w1 w' := by
  have H := Aside0.mk h
  have HP := Aside0.mk hp
  have HL := Aside0.mk hL
  clear h hp hL
  go_enter Tryz.func47, Tryz.ntmps47
  go_wp2_with fail
  refine (lexer_Scan.calls k s L 0 at0 w H.out).mono ?_
  rintro e w2 ⟨v, rfl, ho, hb⟩
  obtain ⟨A1, c1, hv⟩ := Kd.R_slice ho
  subst hv
  have HC := Aside0.mk (Kd.R_reads' ho).2.2
  have HB := Aside0.mk hb
  clear ho hb
  go_wp2_with fail
  refine (clone_walk w2 A1 c1 L HC.out HP.out HL.out).mono ?_
  rintro e w3 ⟨v, rfl, ho, hb⟩
  obtain ⟨A2, c2, hv⟩ := Kd.R_slice ho
  subst hv
  have HC2 := Aside0.mk (Kd.R_reads' ho).2.2
  have HB2 := Aside0.mk (HB.out.trans (hb.mono HB.out.size))
  clear ho hb HC HB
  go_wp2
  go_ret3
  exact ⟨w3, w3.heap.size, rfl, ⟨A2, c2, heap_alloc_new w3 _, Nat.le_refl _, HC2.out⟩, HB2.out, below_alloc (Below.refl _ _) _⟩
def asset_Parse.l0 : Nat → List (S84) → List S36 → Int → Int → Int → Option (List S36 × Int × Int)
  | 0, _, _, _, _, _ => none
  | k + 1, L, out, i, e, a =>
    if e = 0 then
      if (tokAt L i).f0 = 0 then some (out, e, a)
      else (asset_statement.f k L i e a).bind fun r => if out.length < 1000000 then asset_Parse.l0 k L (out ++ [r.1]) r.2.1 r.2.2.1 r.2.2.2 else none
    else some (out, e, a)
def asset_Parse.f (k : Nat) (s : ByteArray) : Option (List S36 × Int × Int) :=
  (lexer_Scan.f k s).bind fun r =>
    if r.2.1 = 0 then
      (if 0 < r.1.length then (if r.1.length ≤ 1000000 then
        (asset_Parse.l0 k r.1 [] 0 0 0).bind fun q => if q.2.1 = 0 then (asset_Check.f k q.1).bind fun c => (if c = 0 then some (q.1, 0, 0) else some ([], c, 0)) else some ([], q.2.1, q.2.2)
      else none) else none)
    else some ([], r.2.1, r.2.2)
theorem asset_parser_number.mono : ∀ (L : List (S84)) (i e a : Int) (k : Nat), LeO (asset_parser_number.f k L i e a) (asset_parser_number.f (k + 1) L i e a) := fun L i e a k => LeO.bind (lexer_Number.mono _ _) fun r => LeO.refl _
theorem asset_parser_choice.mono : ∀ (L : List (S84)) (i e a : Int) (l : List ByteArray) (k : Nat), LeO (asset_parser_choice.f k L i e a l) (asset_parser_choice.f (k + 1) L i e a l) := fun L i e a l k => LeO.bind (slices_Index_string.mono _ _ _) fun r => LeO.refl _
theorem optOne.mono (k : Nat) (L : List (S84)) (A : S36) (n i e a : Int) : LeO (optOne k L A n i e a) (optOne (k + 1) L A n i e a) := by
  unfold optOne
  exact LeO.ite (LeO.bind (asset_parser_choice.mono _ _ _ _ _ _) fun r => LeO.refl _) (LeO.ite (LeO.bind (asset_parser_choice.mono _ _ _ _ _ _) fun r => LeO.refl _) (LeO.ite (LeO.bind (asset_parser_number.mono _ _ _ _ _) fun r => LeO.refl _) (LeO.ite (LeO.bind (asset_parser_number.mono _ _ _ _ _) fun r => LeO.refl _) (LeO.ite (LeO.refl _) (LeO.ite (LeO.bind (asset_parser_number.mono _ _ _ _ _) fun r => LeO.refl _) (LeO.bind (asset_parser_choice.mono _ _ _ _ _ _) fun r => LeO.bind (asset_parser_number.mono _ _ _ _ _) fun r => LeO.bind (asset_parser_choice.mono _ _ _ _ _ _) fun r => LeO.refl _))))))
theorem optLoop.mono : ∀ (k : Nat) (L : List (S84)) (least : Int) (A : S36) (i e a : Int), LeO (optLoop k L least A i e a) (optLoop (k + 1) L least A i e a) := by
  intro k
  induction k with
  | zero => intro L least A i e a; exact LeO.none _
  | succ k ih =>
    intro L least A i e a
    rw [optLoop, optLoop]
    exact LeO.ite (LeO.ite (LeO.refl _) (LeO.bind (slices_Index_string.mono _ _ _) fun n => LeO.ite (LeO.ite (LeO.refl _) (LeO.ite (LeO.refl _) (LeO.ite (LeO.bind (optOne.mono _ _ _ _ _ _ _) fun r => ih _ _ _ _ _ _) (LeO.refl _)))) (LeO.refl _))) (LeO.refl _)
theorem preOne.mono (k : Nat) (t : S84) (e a : Int) : LeO (preOne k t e a) (preOne (k + 1) t e a) := LeO.ite (LeO.bind (address_ParsePrefix.mono _ _) fun r => LeO.refl _) (LeO.refl _)
theorem asset_statement.mono (k : Nat) (L : List (S84)) (i e a : Int) : LeO (asset_statement.f k L i e a) (asset_statement.f (k + 1) L i e a) := LeO.bind (preOne.mono _ _ _ _) fun x => optLoop.mono _ _ _ _ _ _ _
theorem asset_Parse.mono_l : ∀ (k : Nat) (L : List (S84)) (out : List S36) (i e a : Int), LeO (asset_Parse.l0 k L out i e a) (asset_Parse.l0 (k + 1) L out i e a) := by
  intro k
  induction k with
  | zero => intro L out i e a; exact LeO.none _
  | succ k ih =>
    intro L out i e a
    rw [asset_Parse.l0, asset_Parse.l0]
    exact LeO.ite (LeO.ite (LeO.refl _) (LeO.bind (asset_statement.mono _ _ _ _ _) fun r => LeO.ite (ih _ _ _ _ _) (LeO.refl _))) (LeO.refl _)
theorem asset_Parse.mono : ∀ s k, LeO (asset_Parse.f k s) (asset_Parse.f (k + 1) s) := fun s k => LeO.bind (lexer_Scan.mono _ _) fun r => LeO.ite (LeO.ite (LeO.ite (LeO.bind (asset_Parse.mono_l _ _ _ _ _ _) fun q => LeO.ite (LeO.bind (asset_Check.mono _ _) fun c => LeO.refl _) (LeO.refl _)) (LeO.refl _)) (LeO.refl _)) (LeO.refl _)
theorem PosIn.stmt {k : Nat} {L : List (S84)} {i e a : Int} {A : S36} {i' e' a' : Int} (h : PosIn L i) (hf : asset_statement.f k L i e a = some (A, i', e', a')) : PosIn L i' := by
  have hone : ∀ (k : Nat) (A : S36) (n i e a : Int) (r : S36 × Int × Int × Int), PosIn L i → optOne k L A n i e a = some r → PosIn L r.2.1 := by
    intro k A n i e a r hi hr
    unfold optOne at hr
    repeat' split at hr
    all_goals first
      | (obtain ⟨⟨m, x⟩, h1, h2⟩ := Option.bind_eq_some_iff.1 hr
         have h2 := Option.some.inj h2
         subst h2
         first | exact hi.choice h1 | exact hi.number h1)
      | (have h2 := Option.some.inj hr; subst h2; exact hi)
      | (obtain ⟨⟨m1, x1⟩, h1, h2⟩ := Option.bind_eq_some_iff.1 hr
         obtain ⟨⟨m2, x2⟩, h3, h4⟩ := Option.bind_eq_some_iff.1 h2
         obtain ⟨⟨m3, x3⟩, h5, h6⟩ := Option.bind_eq_some_iff.1 h4
         first
           | (have h6 := Option.some.inj h6
              subst h6
              exact ((hi.choice h1).number h3).choice h5)
           | cases h6
           | (split at h6
              · have h6 := Option.some.inj h6
                subst h6
                exact ((hi.choice h1).number h3).choice h5
              · cases h6))
  have hloop : ∀ (k : Nat) (least : Int) (A : S36) (i e a : Int) (r : S36 × Int × Int × Int), PosIn L i → optLoop k L least A i e a = some r → PosIn L r.2.1 := by
    intro k
    induction k with
    | zero => intro least A i e a r _ hr; simp [optLoop] at hr
    | succ k ih =>
      intro least A i e a r hi hr
      rw [optLoop] at hr
      split at hr
      · split at hr
        · have hr := Option.some.inj hr
          subst hr
          show PosIn L (isNx L i 4 ⟨#[59]⟩)
          unfold isNx
          split <;> first | exact hi.nxt | exact hi
        · obtain ⟨n, hn, hr⟩ := Option.bind_eq_some_iff.1 hr
          split at hr
          · split at hr
            · have hr := Option.some.inj hr; subst hr; exact hi.word
            · split at hr
              · have hr := Option.some.inj hr; subst hr; exact hi.word
              · split at hr
                · obtain ⟨q, hq, hr⟩ := Option.bind_eq_some_iff.1 hr
                  exact ih _ _ _ _ _ _ (hone _ _ _ _ _ _ _ hi.word hq) hr
                · cases hr
          · have hr := Option.some.inj hr; subst hr; exact hi.word
      · have hr := Option.some.inj hr; subst hr; exact hi
  unfold asset_statement.f at hf
  obtain ⟨x, hx, hf⟩ := Option.bind_eq_some_iff.1 hf
  refine hloop _ _ _ _ _ _ _ ?_ hf
  have h1 : PosIn L (hostOne L i e a).1 := by unfold hostOne; split <;> exact h.word
  exact (h1.word).word
structure ParI (k gg : Nat) (L : List (S84)) (out : List S36) (i e a : Int) (q : List S36 × Int × Int) : Prop where
  val : asset_Parse.l0 gg L out i e a = some q
  pos : PosIn L i
structure ParW (w1 wr : World) (p c : Nat) (L : List (S84)) (out : List S36) (v : Value) (i e a : Int) : Prop where
  par : IsPar w1 wr p c L i e a
  bel : Below w1.heap.size w1 wr
  out : Kd.R k36 36 wr w1.heap.size (fun k => k ≠ p ∧ k ≠ c) v out
theorem ParW.below {w1 wr w2 : World} {p c : Nat} {L : List (S84)} {out : List S36} {v : Value} {i e a : Int} (h : ParW w1 wr p c L out v i e a) (hb : Below wr.heap.size wr w2) : ParW w1 w2 p c L out v i e a :=
  ⟨h.par.below hb, below_then h.bel h.bel.size hb, Kd.R_below h.out hb⟩
theorem ParI.cases {k gg : Nat} {L : List (S84)} {out : List S36} {i e a : Int} {q : List S36 × Int × Int} (h : ParI k gg L out i e a q) : ∃ g, gg = g + 1 ∧ ((¬ e = 0 ∧ (out, e, a) = q) ∨ (e = 0 ∧ (((tokAt L i).f0 = 0 ∧ (out, e, a) = q) ∨ (¬ (tokAt L i).f0 = 0 ∧ out.length < 1000000 ∧ ∃ A i' e' a', asset_statement.f g L i e a = some (A, i', e', a') ∧ ParI k g L (out ++ [A]) i' e' a' q)))) := by
  have hv := h.val
  cases gg with
  | zero => simp [asset_Parse.l0] at hv
  | succ g =>
    refine ⟨g, rfl, ?_⟩
    rw [asset_Parse.l0] at hv
    split at hv
    · rename_i h0
      refine .inr ⟨h0, ?_⟩
      split at hv
      · rename_i h1
        exact .inl ⟨h1, Option.some.inj hv⟩
      · rename_i h1
        obtain ⟨⟨A, i', e', a'⟩, hs, hv⟩ := Option.bind_eq_some_iff.1 hv
        split at hv
        · rename_i h2
          exact .inr ⟨h1, h2, A, i', e', a', hs, hv, h.pos.stmt hs⟩
        · cases hv
    · rename_i h0
      exact .inl ⟨h0, Option.some.inj hv⟩
theorem ParW.append {w1 w2 w3 : World} {p c : Nat} {L : List (S84)} {out : List S36} {v v1 : Value} {i e a : Int} {A : S36} (hp : IsPar w1 w2 p c L i e a) (hb : Below w1.heap.size w1 w2) (ho : Kd.R k36 36 w2 w1.heap.size (fun k => k ≠ p ∧ k ≠ c) v out)
    (hn : Kd.R k36 36 w3 w1.heap.size (fun k => k ≠ p ∧ k ≠ c) v1 (out ++ [A])) (hb3 : Below w1.heap.size w1 w3) (hg : w2.grownBy w3 v.ownBlock) : ParW w1 w3 p c L (out ++ [A]) v1 i e a := by
  have hne : ∀ (b : Nat) (cs : Array Value) (t : TypeId), w2.heap[b]? = some (.cells cs t (0, 0)) → 36 ≠ t → some b ≠ v.ownBlock := fun b cs t hb ht => Kd.R_ne ho hb ht
  obtain ⟨h1, h2, h3⟩ := hp
  obtain ⟨A0, c0, h4, h5, h6⟩ := h3
  exact ⟨⟨blk_grown h1 hg (hne _ _ _ h1 (by decide)), h2, A0, c0, blk_grown h4 hg (hne _ _ _ h4 (by decide)), h5, h6⟩, hb3, hn⟩
theorem infoA : (Tryz.prog.info? 36).map (fun i => (i.zero, i.size, i.bytes)) = some (some (.agg (assetCells z36 (.slice none 0 0))), 12, 120) := by kernel_rfl
theorem parse_ok (k : Nat) (s : ByteArray) (L : List (S84)) (at0 : Int) (q : List S36 × Int × Int) (r1 : List S36) (r2 r3 : Int) (w : World) (hs : lexer_Scan.f k s = some (L, 0, at0)) (h0 : 0 < L.length) (h1 : L.length ≤ 1000000) (hq : asset_Parse.l0 k L [] 0 0 0 = some q)
    (hr : (if q.2.1 = 0 then (asset_Check.f k q.1).bind fun c => (if c = 0 then some (q.1, (0 : Int), (0 : Int)) else some ([], c, 0)) else some ([], q.2.1, q.2.2)) = some (r1, r2, r3)) (hW : WOK w) :
    Calls Tryz.prog 21 #[.string s] w fun e w' => ∃ v0_ : Value, e = .returned (.tuple #[v0_, .int .i64 r2, .int .i64 r3]) ∧ Kd.R k36 36 w' w.heap.size (fun _ => True) v0_ r1 ∧ Below w.heap.size w w' := by
  have hu := Tryz.underlying36
  have hu2 := Tryz.underlying82
  have hfd : ∀ (t : S84) (w' : World), (Instr.field 84 (tokV t) 0).run Tryz.prog w' = .ok (.int .i64 t.f0) w' := fun _ _ => by kernel_rfl
  have HS := Aside0.mk hs
  have HL : Aside0 (L ≠ [] ∧ L.length ≤ 1000000) := ⟨List.length_pos_iff.1 h0, h1⟩
  have HQ : Aside0 (ParI k k L [] 0 0 0 q) := ⟨⟨hq, by omega, by omega, h1⟩⟩
  have HR := Aside0.mk hr
  have HW := Aside0.mk hW
  clear hs h0 h1 hq hr hW
  go_enter Tryz.func21, Tryz.ntmps21
  go_wp2_with fail
  refine (newcur_ok k s L at0 w HS.out HL.out.1 HL.out.2).mono ?_
  rintro e w2 ⟨w1, c, rfl, hc, hb1, hb2⟩
  have HB1 := Aside0.mk hb1
  have HW1 := Aside0.mk (HW.out.below hb1)
  have HP : Aside0 (IsPar w1 (w2.alloc (.cells #[.pointer (some ⟨c, 0, none⟩), .int .i64 0, .int .i64 0] 82)) w2.heap.size c L 0 0 0) := ⟨heap_alloc_new _ _, hb2.size, hc.alloc _⟩
  have HB2 := Aside0.mk (below_alloc hb2 (.cells #[.pointer (some ⟨c, 0, none⟩), .int .i64 0, .int .i64 0] 82))
  clear hc hb1 hb2
  go_upto_region 6 with (fail)
  obtain ⟨p, hpp⟩ : ∃ x, w2.heap.size = x := ⟨_, rfl⟩
  rw [hpp] at HP
  simp only [hpp]
  clear hpp
  generalize w2.alloc (.cells #[.pointer (some ⟨c, 0, none⟩), .int .i64 0, .int .i64 0] 82) = W3 at HP HB2 ⊢
  have HPW : Aside0 (ParW w1 W3 p c L [] (.slice none 0 0) 0 0 0) := ⟨HP.out, HB2.out, Kd.R_nil _ _ _ _ _⟩
  clear HP HB2
  go_loopg [9] k (fun gg v9 wr => ∃ (out : List S36) (Ao : Option Addr) (co : Nat) (i e a : Int), v9 = .slice Ao out.length co ∧ Aside0 (ParI k gg L out i e a q) ∧ Aside0 (ParW w1 wr p c L out (.slice Ao out.length co) i e a))
  case atStart => exact ⟨[], none, 0, 0, 0, 0, rfl, HQ, HPW⟩
  case round =>
    clear HQ HPW
    obtain ⟨out, Ao, co, i, e, a, rfl, HI, HPW⟩ := hrel
    obtain ⟨g, hg, hcs⟩ := HI.out.cases
    have HCS := Aside0.mk hcs
    have HPOS := Aside0.mk HI.out.pos
    clear hcs HI
    rcases HCS.out with ⟨he, hqq⟩ | ⟨he, hcs⟩
    · have HE : Aside0 ((([] : List S36), e, a) = (r1, r2, r3)) := ⟨by have h := HR.out; rw [← hqq] at h; exact Option.some.inj ((if_neg he).symm.trans h)⟩
      have b1 : (e == 0) = false := beq_eq_false_iff_ne.mpr he
      have b2 : (e != 0) = true := bne_iff_ne.mpr he
      clear he hqq hg HCS
      obtain ⟨x0, x1, x2⟩ := HPW.out.par.cells
      go_wp2
      go_quiet (fail)
      go_wp2
      go_ret3
      have hz := HE.out
      simp only [Prod.mk.injEq] at hz
      obtain ⟨rfl, rfl, rfl⟩ := hz
      exact ⟨.slice none 0 0, rfl, Kd.R_nil _ _ _ _ _, pw_below_drewN (HB1.out.trans (HPW.out.bel.mono HB1.out.size)) _⟩
    · have b1 : (e == 0) = true := beq_iff_eq.mpr he
      have b2 : (e != 0) = false := by rw [he]; rfl
      have HC2 := Aside0.mk hcs
      have HE0 := Aside0.mk he
      clear hcs he HCS
      obtain ⟨x0, x1, x2⟩ := HPW.out.par.cells
      go_wp2_with fail
      refine (peek_walk w1 wr c L i HPW.out.par.cur HPW.out.bel HPOS.out.ge HPOS.out.lt).mono ?_
      rintro e5 w5 ⟨rfl, hb⟩
      clear x0 x1 x2
      replace HPW := Aside0.mk (HPW.out.below hb)
      clear hb
      rcases HC2.out with ⟨hk, hqq⟩ | ⟨hk, hlen, A, i', e', a', hst, hI⟩
      · have b3 : ((tokAt L i).f0 != 0) = false := by rw [hk]; rfl
        have hrr := HR.out
        rw [← hqq] at hrr
        replace hrr := (if_pos HE0.out).symm.trans hrr
        obtain ⟨cc, hcc, hrr⟩ := Option.bind_eq_some_iff.1 hrr
        have HCC := Aside0.mk hcc
        have HRR := Aside0.mk hrr
        clear hk hqq hcc hrr hg HC2
        obtain ⟨x0, x1, x2⟩ := HPW.out.par.cells
        go_wp2_with fail
        refine (asset_Check.calls k Ao co out cc w5 (Kd.R_reads' HPW.out.out).2.2 (Kd.R_reads' HPW.out.out).2.1 HCC.out).mono ?_
        rintro e w6 ⟨rfl, hb⟩
        clear x0 x1 x2
        have HPW6 := Aside0.mk (HPW.out.below hb)
        clear hb
        by_cases hcc : cc = 0
        · have b9 : (cc != 0) = false := by rw [hcc]; rfl
          have HZ : Aside0 ((out, (0 : Int), (0 : Int)) = (r1, r2, r3)) := ⟨Option.some.inj ((if_pos hcc).symm.trans HRR.out)⟩
          clear hcc
          go_wp2
          go_ret3
          have hz := HZ.out
          simp only [Prod.mk.injEq] at hz
          obtain ⟨rfl, rfl, rfl⟩ := hz
          exact ⟨_, rfl, Kd.R_lower (Kd.R_mono HPW6.out.out (fun _ _ => trivial)) HB1.out.size, HB1.out.trans (HPW6.out.bel.mono HB1.out.size)⟩
        · have b9 : (cc != 0) = true := bne_iff_ne.mpr hcc
          have HZ : Aside0 ((([] : List S36), cc, (0 : Int)) = (r1, r2, r3)) := ⟨Option.some.inj ((if_neg hcc).symm.trans HRR.out)⟩
          clear hcc
          go_wp2
          go_ret3
          have hz := HZ.out
          simp only [Prod.mk.injEq] at hz
          obtain ⟨rfl, rfl, rfl⟩ := hz
          exact ⟨.slice none 0 0, rfl, Kd.R_nil _ _ _ _ _, HB1.out.trans (HPW6.out.bel.mono HB1.out.size)⟩
      · have b3 : ((tokAt L i).f0 != 0) = true := bne_iff_ne.mpr hk
        have HST := Aside0.mk hst
        have HI2 := Aside0.mk hI
        have HLEN := Aside0.mk hlen
        have HGG := Aside0.mk hg
        clear hk hst hI hlen hg HC2
        have HOLD : Aside0 ((∀ k, (Value.slice Ao out.length co).ownBlock = some k → k < w5.heap.size) ∧ p < w5.heap.size ∧ c < w5.heap.size ∧ w1.heap.size ≤ w5.heap.size) := ⟨fun k hk => ((Kd.R_bound HPW.out.out).1 k hk).2.2.1, HPW.out.par.lt, HPW.out.par.cur.lt, HPW.out.bel.size⟩
        go_wp2_with fail
        refine (statement_walk g w1 w5 p c L i e a A i' e' a' HPW.out.par HPW.out.bel HPOS.out HW1.out HST.out).mono ?_
        rintro r7 w7 ⟨v7, rfl, ho, hi, hb, hk⟩
        obtain ⟨A7, c7, hv⟩ := Kd.R_slice ho
        subst hv
        have HO7 := Aside0.mk (Kd.R_kept HPW.out.out hk (fun k hk' => by rintro (h | h); exact hk'.1 h; exact hk'.2 h))
        have HI7 := Aside0.mk hi
        have HB7 := Aside0.mk hb
        have HR7 := Aside0.mk (Kd.R_lower (Kd.R_mono (Kd.R_bound ho) (fun k hk => hk.2.1)) HOLD.out.2.2.2)
        have HS7 := Aside0.mk hk.1
        clear ho hi hb hk HPW
        go_wp2_with (at_builtin; refine Kd.R_append k36 (w0 := w1) w1.heap.size rfl (.tmp 35) (.tmp 38) 22 36 (.agg (assetCells z36 (.slice none 0 0))) 120 rfl Tryz.underlying22 infoA rfl (by decide) (by omega) (.slice Ao out.length co) out A (assetCells A (.slice A7 A.f8.length c7)).toList (fun k => k ≠ p ∧ k ≠ c) (fun k => w5.heap.size ≤ k) rfl (by go_simp) (k36_mkM _ _ _ A HR7.out) ?aP ?aF HO7.out HB7.out HB7.out.size ?aL ?_)
        case aP => exact fun k hk => ⟨⟨by have := HOLD.out.2; omega, by have := HOLD.out.2; omega⟩, fun he => by have := HOLD.out.1 k he.symm; omega⟩
        case aF => exact fun k hk => ⟨by have := HI7.out.lt; omega, by have := HI7.out.cur.lt; omega⟩
        case aL => have := HLEN.out; omega
        intro v1 w8 ho hb1 hgr hat
        obtain ⟨A8, c8, hv⟩ := Kd.R_slice ho
        subst hv
        have HZ := Aside0.mk (ParW.append HI7.out HB7.out HO7.out ho hb1 hgr)
        clear ho hb1 hgr hat
        obtain ⟨n8, hn8⟩ : ∃ x, (out ++ [A]).length = x := ⟨_, rfl⟩
        rw [hn8]
        have HN8 := Aside0.mk hn8
        clear hn8
        go_wp2
        have hg := HGG.out
        clear HGG
        subst hg
        go_roundg g
        case measure => exact Nat.lt_succ_self g
        case rel => exact ⟨out ++ [A], A8, c8, i', e', a', by rw [HN8.out], HI2, HZ⟩
theorem parse_bad (k : Nat) (s : ByteArray) (L : List (S84)) (e0 at0 : Int) (w : World) (hs : lexer_Scan.f k s = some (L, e0, at0)) (he : e0 ≠ 0) :
    Calls Tryz.prog 21 #[.string s] w fun e w' => e = .returned (.tuple #[.slice none 0 0, .int .i64 e0, .int .i64 at0]) ∧ Below w.heap.size w w' := by
  have HS := Aside0.mk hs
  have HE := Aside0.mk he
  have b1 : (e0 != 0) = true := bne_iff_ne.mpr he
  clear hs he
  go_enter Tryz.func21, Tryz.ntmps21
  go_wp2_with fail
  refine (newcur_bad k s L e0 at0 w HS.out HE.out).mono ?_
  rintro e w2 ⟨rfl, hb⟩
  have HB := Aside0.mk hb
  clear hb
  go_wp2
  go_ret3
  exact ⟨rfl, HB.out⟩
theorem asset_Parse.calls (k : Nat) (s : ByteArray) (r1 : List S36) (r2 r3 : Int) (w : World) (h : asset_Parse.f k s = some (r1, r2, r3)) (hW_ : WOK w) :
    Calls Tryz.prog 21 #[.string s] w fun e w' => ∃ v0_ : Value, e = .returned (.tuple #[v0_, .int .i64 r2, .int .i64 r3]) ∧ Kd.R k36 36 w' w.heap.size (fun _ => True) v0_ r1 ∧ Below w.heap.size w w' := by
  unfold asset_Parse.f at h
  obtain ⟨⟨L, e0, at0⟩, hs, h⟩ := Option.bind_eq_some_iff.1 h
  split at h
  · rename_i he
    change e0 = 0 at he
    subst he
    split at h
    · rename_i h0
      split at h
      · rename_i h1
        obtain ⟨q, hq, hr⟩ := Option.bind_eq_some_iff.1 h
        exact parse_ok k s L at0 q r1 r2 r3 w hs h0 h1 hq hr hW_
      · cases h
    · cases h
  · rename_i he
    simp only [Option.some.injEq, Prod.mk.injEq] at h
    obtain ⟨rfl, rfl, rfl⟩ := h
    refine (parse_bad k s L e0 at0 w hs he).mono ?_
    rintro e w' ⟨rfl, hb⟩
    exact ⟨_, rfl, Kd.R_nil _ _ _ _ _, hb⟩
structure TabW (w0 W : World) (p : Nat) (l : List S36) (v : Value) : Prop where
  blk : W.heap[p]? = some (.cells #[v] 93 (0, 0))
  bel : Below w0.heap.size w0 W
  ge : w0.heap.size ≤ p
  out : Kd.R k36 36 W w0.heap.size (fun k => k ≠ p) v l
theorem TabW.below {w0 W W1 : World} {p : Nat} {l : List S36} {v : Value} (h : TabW w0 W p l v) (hb : Below W.heap.size W W1) : TabW w0 W1 p l v := ⟨blk_below h.blk hb, below_then h.bel h.bel.size hb, h.ge, Kd.R_below h.out hb⟩
def asset_New.f (k : Nat) (l : List S36) : Option (Option (List S36) × Int) :=
  (asset_Check.f k l).bind fun c => if c = 0 then (if l.length ≤ 1000 ∧ (l.all fun a => decide (a.f8.length < 1000000)) = true then some (some l, 0) else none) else some (none, c)
theorem tab_get {l : List S36} {j : Nat} (h : j < l.length) : rd_T36 l (j : Int) = l[j] := by unfold rd_T36; rw [Int.toNat_natCast, List.getD_eq_getElem?_getD, List.getElem?_eq_getElem h]; rfl
theorem tab_mem {l : List S36} {j : Nat} (h : j < l.length) : rd_T36 l (j : Int) ∈ l := by rw [tab_get h]; exact List.getElem_mem h
theorem tab_take {l : List S36} {j : Nat} (h : j < l.length) : l.take (j + 1) = l.take j ++ [rd_T36 l (j : Int)] := by rw [tab_get h]; exact (List.take_append_getElem h).symm
theorem new_ok (k : Nat) (A : Option Addr) (c : Nat) (l : List S36) (w : World) (hC : Kd.C k36 w A l.length l) (hc : l.length ≤ c) (h : asset_Check.f k l = some 0) (hl : l.length ≤ 1000) (hs : ∀ a ∈ l, a.f8.length < 1000000) :
    Calls Tryz.prog 25 #[.slice A l.length c] w fun e w' => ∃ w1 p v, e = .returned (.tuple #[.pointer (some ⟨p, 0, none⟩), .int .i64 0]) ∧ Below w.heap.size w w1 ∧ TabW w1 w' p l v := by
  have hu := Tryz.underlying36
  have hu2 := Tryz.underlying93
  have HC := Aside0.mk hC
  have HCC := Aside0.mk hc
  have HL := Aside0.mk hl
  have HS := Aside0.mk hs
  have HCK := Aside0.mk (asset_Check.calls k A c l 0 w hC hc h)
  obtain ⟨n, hn⟩ : ∃ n, l.length = n := ⟨_, rfl⟩
  rw [hn] at HCK HL ⊢
  have HN := Aside0.mk hn
  clear hC hc h hl hs hn
  go_enter Tryz.func25, Tryz.ntmps25
  go_wp2_with fail
  refine HCK.out.mono ?_
  rintro e w2 ⟨rfl, hb2⟩
  have HB2 := Aside0.mk hb2
  clear hb2
  go_upto_region 6 with (fail)
  have HT : Aside0 (TabW w2 (w2.alloc (.cells #[.slice none 0 0] 93)) w2.heap.size (l.take 0) (.slice none 0 0)) := ⟨heap_alloc_new _ _, below_alloc (Below.refl _ _) _, Nat.le_refl _, Kd.R_nil _ _ _ _ _⟩
  obtain ⟨p, hp⟩ : ∃ x, w2.heap.size = x := ⟨_, rfl⟩
  simp only [hp] at HT ⊢
  clear hp
  change Code.wp _ _ _ _ (w2.alloc (.cells #[.slice none 0 0] 93))
  generalize w2.alloc (.cells #[.slice none 0 0] 93) = W0 at HT ⊢
  go_loopg [17] (n + 1) (fun gg v17 wr => ∃ (i : Nat) (Ao : Option Addr) (co : Nat), v17 = .int .i64 (i : Int) ∧ Aside0 (gg + i = n + 1 ∧ i ≤ n) ∧ Aside0 (TabW w2 wr p (l.take i) (.slice Ao i co)))
  case atStart => exact ⟨0, none, 0, rfl, ⟨by omega, by omega⟩, HT⟩
  case round =>
    clear HT W0
    obtain ⟨i, Ao, co, rfl, HI, HT⟩ := hrel
    have HB := Aside0.mk (below_then HB2.out HB2.out.size HT.out.bel)
    by_cases hi : i < n
    · have HII := Aside0.mk hi
      have b2 : decide ((i : Int) < (n : Int)) = true := decide_eq_true (by omega)
      have b2' : decide (i < n) = true := decide_eq_true hi
      have b3 : n ≤ 1000000 := by have := HL.out; omega
      obtain ⟨ad, Ab, cb, rfl, k0, k1, k2, k3, k4, k5, k6, k7, k8, k9, k10, k11, kl, kc⟩ := at_T36 (Kd.C_below HC.out HB.out) (i : Int) (by omega) (by rw [HN.out]; omega)
      simp only [Int.toNat_natCast] at k0 k1 k2 k3 k4 k5 k6 k7 k8 k9 k10 k11
      have HTK : Aside0 (l.take (i + 1) = l.take i ++ [rd_T36 l (i : Int)]) := ⟨tab_take (by rw [HN.out]; exact hi)⟩
      have HSM : Aside0 ((rd_T36 l (i : Int)).f8.length < 1000000) := ⟨HS.out _ (tab_mem (by rw [HN.out]; exact hi))⟩
      have HLT : Aside0 ((l.take i).length = i) := ⟨by rw [List.length_take, HN.out]; omega⟩
      obtain ⟨a, ha⟩ : ∃ a, rd_T36 l (i : Int) = a := ⟨_, rfl⟩
      rw [ha] at k0 k1 k2 k3 k4 k5 k6 k7 k8 k9 k10 k11 kl kc HTK HSM
      have HKC := Aside0.mk kc
      clear kl kc ha
      go_upto_region 8 with (fail)
      clear hi
      obtain ⟨ga, hga⟩ : ∃ x, wr.heap.size = x := ⟨_, rfl⟩
      have HA : Aside0 ((wr.alloc (.cells (asC a (.slice Ab a.f8.length cb)) 36)).heap[wr.heap.size]? = some (.cells (asC a (.slice Ab a.f8.length cb)) 36 (0, 0))) := ⟨heap_alloc_new _ _⟩
      rw [hga] at HA
      simp only [hga]
      clear hga k0 k1 k2 k3 k4 k5 k6 k7 k8 k9 k10 k11
      replace HKC := Aside0.mk (Kd.C_below HKC.out (below_alloc (Below.refl _ _) (.cells (asC a (.slice Ab a.f8.length cb)) 36)))
      replace HT := Aside0.mk (HT.out.below (below_alloc (Below.refl _ _) (.cells (asC a (.slice Ab a.f8.length cb)) 36)))
      change Code.wp _ _ _ _ (wr.alloc (.cells (asC a (.slice Ab a.f8.length cb)) 36))
      generalize wr.alloc (.cells (asC a (.slice Ab a.f8.length cb)) 36) = W1 at HA HKC HT ⊢
      obtain ⟨d0, d1, d2, d3, d4, d5, d6, d7, d8, d9, d10, d11⟩ := zc12 HA
      have q0 := zc (Aside0.mk HT.out.blk) 0
      have HOLD : Aside0 ((∀ k, (Value.slice Ao i co).ownBlock = some k → k < W1.heap.size) ∧ p < W1.heap.size ∧ w2.heap.size ≤ W1.heap.size) := ⟨fun k hk => ((Kd.R_bound HT.out.out).1 k hk).2.2.1, blk_lt HT.out.blk, HT.out.bel.size⟩
      clear d0 d1 d2 d3 d4 d5 d6 d7 d8 d9 d10 d11 q0
      refine start_ (n := 12) (S := fun w' => w'.cell? ⟨p, 0, none⟩ = some (.slice Ao i co) ∧ w'.cell? ⟨ga, 0, none⟩ = some (.string a.f0) ∧ w'.cell? ⟨ga, 1, none⟩ = some (.bool a.f1.f0.f0) ∧ w'.cell? ⟨ga, 2, none⟩ = some (.int .u64 a.f1.f0.f1) ∧ w'.cell? ⟨ga, 3, none⟩ = some (.int .u64 a.f1.f0.f2) ∧ w'.cell? ⟨ga, 4, none⟩ = some (.int .i64 a.f1.f1) ∧ w'.cell? ⟨ga, 5, none⟩ = some (.int .i64 a.f2) ∧ w'.cell? ⟨ga, 6, none⟩ = some (.int .i64 a.f3) ∧ w'.cell? ⟨ga, 7, none⟩ = some (.int .i64 a.f4) ∧ w'.cell? ⟨ga, 8, none⟩ = some (.int .i64 a.f5) ∧ w'.cell? ⟨ga, 9, none⟩ = some (.bool a.f6) ∧ w'.cell? ⟨ga, 10, none⟩ = some (.int .i64 a.f7) ∧ w'.cell? ⟨ga, 11, none⟩ = some (.slice Ab a.f8.length cb)) (ds := [8, 11]) #[false, false, false, false, false, false, false, false, false, false, false, false] (by kernel_rfl) rfl rfl ⟨zc (Aside0.mk HT.out.blk) 0, zc (HA) 0, zc (HA) 1, zc (HA) 2, zc (HA) 3, zc (HA) 4, zc (HA) 5, zc (HA) 6, zc (HA) 7, zc (HA) 8, zc (HA) 9, zc (HA) 10, zc (HA) 11⟩ (fun hHeld => ?_)
      replace HT := Aside0.mk (HT.out.below (Below.drew (Below.refl _ _)))
      replace HKC := Aside0.mk (Kd.C_below HKC.out (Below.drew (Below.refl _ _)))
      replace HA : Aside0 (W1.drew.heap[ga]? = some (.cells (asC a (.slice Ab a.f8.length cb)) 36 (0, 0))) := ⟨HA.out⟩
      replace HOLD : Aside0 ((∀ k, (Value.slice Ao i co).ownBlock = some k → k < W1.drew.heap.size) ∧ p < W1.drew.heap.size ∧ w2.heap.size ≤ W1.drew.heap.size) := ⟨HOLD.out⟩
      generalize W1.drew = W2 at HA HKC HT HOLD hHeld ⊢
      refine zp0 0 21 ?_; refine zp0 1 22 ?_; refine zp0 2 23 ?_; refine zp0 3 24 ?_; refine zt0 4 25 hHeld ?_; refine zt0 5 26 hHeld ?_; refine zo0 6 27 (fun K hK => ?_)
      refine zg Tryz.func52 #[.agg (asC a (.slice Ab a.f8.length cb))] ?_
      refine (clone_walk' a Ab cb W2 HKC.out HSM.out).mono ?_
      rintro e w7 ⟨g7, rfl, ho, hb⟩
      refine ⟨_, rfl, ?_⟩
      have HT7 := Aside0.mk (HT.out.below hb)
      have HA7 := Aside0.mk (blk_below HA.out hb)
      have HR7 := Aside0.mk (Kd.R_lower (Kd.R_mono (Kd.R_bound ho) (fun k hk => hk.2.1)) HOLD.out.2.2)
      have HS7 := Aside0.mk hb.size
      clear ho hb HT HA
      refine hK.out _ _ ⟨zc (Aside0.mk HT7.out.blk) 0, zc (HA7) 0, zc (HA7) 1, zc (HA7) 2, zc (HA7) 3, zc (HA7) 4, zc (HA7) 5, zc (HA7) 6, zc (HA7) 7, zc (HA7) 8, zc (HA7) 9, zc (HA7) 10, zc (HA7) 11⟩ (fun hHeld => ?_)
      clear hK K
      refine zn 27 ?_
      refine zo0 7 28 (fun K hK => ?_)
      refine value_ (w1 := ?_) (v := ?_) (by rfl) rfl ?_ ?_
      rotate_left 2
      · go_simp
        constructor
        · rfl
        · rfl
      refine hK.out _ _ ⟨zc (Aside0.mk (blk_alloc HT7.out.blk _)) 0, zc (Aside0.mk (blk_alloc HA7.out _)) 0, zc (Aside0.mk (blk_alloc HA7.out _)) 1, zc (Aside0.mk (blk_alloc HA7.out _)) 2, zc (Aside0.mk (blk_alloc HA7.out _)) 3, zc (Aside0.mk (blk_alloc HA7.out _)) 4, zc (Aside0.mk (blk_alloc HA7.out _)) 5, zc (Aside0.mk (blk_alloc HA7.out _)) 6, zc (Aside0.mk (blk_alloc HA7.out _)) 7, zc (Aside0.mk (blk_alloc HA7.out _)) 8, zc (Aside0.mk (blk_alloc HA7.out _)) 9, zc (Aside0.mk (blk_alloc HA7.out _)) 10, zc (Aside0.mk (blk_alloc HA7.out _)) 11⟩ (fun hHeld => ?_)
      clear hK K
      refine zn 28 ?_
      refine last_ (i := 8) (N := some 29) #[true, true, true, true, true, true, true, true, true, false, false, false] rfl rfl (by kernel_rfl) (by decide) (fun K hK => ?_)
      refine Kd.R_append_step k36 (w0 := w2) w2.heap.size (by rfl) (.tmp 25) (.tmp 28) 22 36 (.agg (assetCells z36 (.slice none 0 0))) 120 rfl Tryz.underlying22 infoA rfl (by decide) (by omega) (.slice Ao i co) (l.take i) a [.string a.f0, .bool a.f1.f0.f0, .int .u64 a.f1.f0.f1, .int .u64 a.f1.f0.f2, .int .i64 a.f1.f1, .int .i64 a.f2, .int .i64 a.f3, .int .i64 a.f4, .int .i64 a.f5, .bool a.f6, .int .i64 a.f7, .slice (some ⟨g7, 0, none⟩) a.f8.length a.f8.length] (fun k => k ≠ p) (fun k => W2.heap.size ≤ k) rfl rfl ?aM ?aP ?aF ?aO ?aB ?aS ?aL ?_
      (case aM => exact k36_mkM _ _ _ a HR7.out)
      (case aP => exact fun k hk => ⟨by have := HOLD.out.2; omega, fun he => by have := HOLD.out.1 k he.symm; omega⟩)
      (case aF => exact fun k hk => by have := HOLD.out.2.1; have := HS7.out; omega)
      (case aO => exact HT7.out.out)
      (case aB => exact HT7.out.bel)
      (case aS => exact HT7.out.bel.size)
      (case aL => have := HLT.out; have := HL.out; have := HII.out; omega)
      intro v1 w8 ho hb1 hgr hat
      obtain ⟨A8, c8, hv⟩ := Kd.R_slice ho
      subst hv
      have HB8 := Aside0.mk (blk_grown HT7.out.blk hgr (Kd.R_ne HT7.out.out HT7.out.blk (by decide)))
      have hf3 : w8.frozen? ⟨p, 0, none⟩ = false := by simp [World.frozen?, HB8.out]
      have hc3 := (blk_cell HB8.out 0)
      have HO8 := Aside0.mk ho
      have HBB8 := Aside0.mk hb1
      clear ho hb1 hgr hat
      have HN8 : Aside0 ((l.take i ++ [a]).length = i + 1) := ⟨by rw [List.length_append, HLT.out]; rfl⟩
      rw [HN8.out]
      refine hK.out _ _ ?_
      clear hK K
      refine zn 29 ?_
      refine zp0 9 30 ?_; refine zp0 10 31 ?_
      refine last_ (i := 11) (N := none) #[true, true, true, true, true, true, true, true, true, true, true, true] rfl rfl (by kernel_rfl) (by decide) (fun K hK => ?_)
      refine skip_ (w1 := ?_) (by rfl) rfl ?_ ?_
      rotate_left
      · go_simp
        rfl
      refine hK.out _ _ ?_
      clear hK K
      refine zd0 ?_
      have HTN : Aside0 (TabW w2 (w8.setCell ⟨p, 0, none⟩ (.slice A8 (i + 1) c8)) p (l.take (i + 1)) (.slice A8 (i + 1) c8)) := ⟨blk_put HB8.out 0 _ rfl, HBB8.out.setCell HT7.out.ge _, HT7.out.ge, by rw [HTK.out]; exact Kd.R_set (by have h := HO8.out; rw [HN8.out] at h; exact h) HB8.out (by decide) 0 _⟩
      have HI1 : Aside0 ((n - i) + (i + 1) = n + 1 ∧ i + 1 ≤ n) := ⟨by have := HII.out; omega, HII.out⟩
      have hi2 : i < n := HII.out
      go_wp2
      go_roundg (n - i)
      case measure => have := HI.out.1; have := HII.out; omega
      case rel => exact ⟨i + 1, A8, c8, by (have := HII.out; go_num), HI1, HTN⟩
    · have HE : Aside0 (l.take i = l) := ⟨List.take_of_length_le (by rw [HN.out]; omega)⟩
      have b2 : decide ((i : Int) < (n : Int)) = false := decide_eq_false (by omega)
      have b2' : decide (i < n) = false := decide_eq_false hi
      go_wp2
      go_ret2
      exact ⟨w2, p, _, rfl, HB2.out, by rw [HE.out] at HT; exact HT.out⟩
theorem new_bad (k : Nat) (A : Option Addr) (c : Nat) (l : List S36) (r : Int) (w : World) (hC : Kd.C k36 w A l.length l) (hc : l.length ≤ c) (h : asset_Check.f k l = some r) (hr : r ≠ 0) :
    Calls Tryz.prog 25 #[.slice A l.length c] w fun e w' => e = .returned (.tuple #[.pointer none, .int .i64 r]) ∧ Below w.heap.size w w' := by
  have HCK := Aside0.mk (asset_Check.calls k A c l r w hC hc h)
  obtain ⟨n, hn⟩ : ∃ n, l.length = n := ⟨_, rfl⟩
  rw [hn] at HCK ⊢
  have b1 : (r != 0) = true := bne_iff_ne.mpr hr
  clear hC hc h hr hn
  go_enter Tryz.func25, Tryz.ntmps25
  go_wp2_with fail
  refine HCK.out.mono ?_
  rintro e w2 ⟨rfl, hb2⟩
  go_wp2
  go_ret2
  exact ⟨rfl, hb2⟩
end Go.Proofs.YtnphnhkinjppjaaGreatDoor.Q
end

section
namespace Go.Proofs.YtnphnhkinjppjaaGreatDoor.Q
open Go.RowKit Go.Proofs.YtnphnhkinjppjaaGreatDoorW.PrintWords Go.Proofs.YtnphnhkinjppjaaGreatDoorW.PrintLast Go.Proofs.YtnphnhkinjppjaaGreatDoorW.PrintMore
def findBest (b0 : Bool) (b1 b2 : Int) : List S36 → S36 → Int → Option (S36)
  | [], best, _ => some best
  | x :: xs, best, bits =>
    if bits < x.f1.f1 then
      (address_Contains.f x.f1.f0.f0 x.f1.f0.f1 x.f1.f0.f2 x.f1.f1 b0 b1 b2).bind fun c =>
        if c = true then findBest b0 b1 b2 xs x x.f1.f1 else findBest b0 b1 b2 xs best bits
    else findBest b0 b1 b2 xs best bits
def asset_Find.f (l : List S36) (b0 : Bool) (b1 b2 : Int) : Option (S36) := findBest b0 b1 b2 l aDef (-1)
def inB (x : S36) (b : Ad) : Bool := decide (x.f1.f0.f0 = b.f0 ∧ subA b (restN x.f1.f0 x.f1.f1) false = x.f1.f0)
theorem GoodA.sub {x : S36} (g : GoodA x) : subA x.f1.f0 (restN x.f1.f0 x.f1.f1) false = x.f1.f0 := by
  have := g.vp
  unfold vpB at this
  simp only [Bool.and_eq_true, decide_eq_true_eq] at this
  exact this.2.2
theorem in_eq {x : S36} (g : GoodA x) (hx : AW x.f1.f0) {b : Ad} (hb : AW b) : address_Contains.f x.f1.f0.f0 x.f1.f0.f1 x.f1.f0.f2 x.f1.f1 b.f0 b.f1 b.f2 = some (inB x b) := by
  unfold inB
  by_cases h : x.f1.f0.f0 = b.f0
  · rw [con_eq hx hb h g.bits.1 g.bits.2.1, g.sub]
    congr 1
    rw [Bool.eq_iff_iff, decide_eq_true_eq, decide_eq_true_eq]
    exact ⟨fun e => ⟨h, e⟩, fun e => e.2⟩
  · rw [con_far h, decide_eq_false (fun e => h e.1)]
theorem rin_ev {x : S36} (g : GoodA x) {b : Ad} (hb : AF b) : Ev (fun k => r06_Contains.f k x.f1.f0.f0 x.f1.f0.f1 x.f1.f0.f2 x.f1.f1 b.f0 b.f1 b.f2) (inB x b) := by
  unfold inB
  by_cases h : x.f1.f0.f0 = b.f0
  · refine ev_to ?_ (rcon_ev hb h g.bits.1 g.bits.2.1)
    rw [Bool.eq_iff_iff, decide_eq_true_eq, decide_eq_true_eq]
    exact ⟨fun e => ⟨h, e⟩, fun e => e.2⟩
  · refine ⟨0, fun k _ => ?_⟩
    rw [decide_eq_false (fun e => h e.1)]
    exact rcon_far h k
def findS (b : Ad) : List S36 → S36 → Int → S36
  | [], best, _ => best
  | x :: xs, best, bits => if bits < x.f1.f1 ∧ inB x b = true then findS b xs x x.f1.f1 else findS b xs best bits
theorem find_eq {b : Ad} (hb : AW b) : ∀ (l : List S36), (∀ x ∈ l, GoodA x ∧ AW x.f1.f0) → ∀ (best : S36) (bits : Int), findBest b.f0 b.f1 b.f2 l best bits = some (findS b l best bits)
  | [], _, best, bits => rfl
  | x :: xs, h, best, bits => by
    have hx := h x (List.mem_cons_self ..)
    have ih := find_eq hb xs (fun y hy => h y (List.mem_cons_of_mem _ hy))
    rw [findBest, findS]
    by_cases h1 : bits < x.f1.f1
    · rw [if_pos h1, in_eq hx.1 hx.2 hb, Option.bind_some]
      by_cases h2 : inB x b = true
      · rw [if_pos h2, if_pos ⟨h1, h2⟩]
        exact ih _ _
      · rw [if_neg h2, if_neg (fun e => h2 e.2)]
        exact ih _ _
    · rw [if_neg h1, if_neg (fun e => h1 e.1)]
      exact ih _ _
theorem findS_spec (b : Ad) : ∀ (l : List S36) (best : S36) (bits : Int), (findS b l best bits = best ∧ ∀ x ∈ l, inB x b = true → x.f1.f1 ≤ bits) ∨ (findS b l best bits ∈ l ∧ inB (findS b l best bits) b = true ∧ bits < (findS b l best bits).f1.f1 ∧ ∀ x ∈ l, inB x b = true → x.f1.f1 ≤ (findS b l best bits).f1.f1)
  | [], best, bits => .inl ⟨rfl, fun x hx => by cases hx⟩
  | x :: xs, best, bits => by
    rw [findS]
    by_cases h : bits < x.f1.f1 ∧ inB x b = true
    · rw [if_pos h]
      right
      rcases findS_spec b xs x x.f1.f1 with ⟨e, h2⟩ | ⟨e, h2, h3, h4⟩
      · rw [e]
        refine ⟨List.mem_cons_self .., h.2, h.1, fun y hy hi => ?_⟩
        rcases List.mem_cons.1 hy with rfl | hy
        · exact Int.le_refl _
        · exact h2 y hy hi
      · refine ⟨List.mem_cons_of_mem _ e, h2, by omega, fun y hy hi => ?_⟩
        rcases List.mem_cons.1 hy with rfl | hy
        · omega
        · exact h4 y hy hi
    · rw [if_neg h]
      rcases findS_spec b xs best bits with ⟨e, h2⟩ | ⟨e, h2, h3, h4⟩
      · left
        refine ⟨e, fun y hy hi => ?_⟩
        rcases List.mem_cons.1 hy with rfl | hy
        · by_cases h5 : bits < y.f1.f1
          · exact absurd ⟨h5, hi⟩ h
          · omega
        · exact h2 y hy hi
      · right
        refine ⟨List.mem_cons_of_mem _ e, h2, h3, fun y hy hi => ?_⟩
        rcases List.mem_cons.1 hy with rfl | hy
        · by_cases h5 : bits < y.f1.f1
          · exact absurd ⟨h5, hi⟩ h
          · omega
        · exact h4 y hy hi
theorem svc_ext {x y : S74} (h0 : x.f0 = y.f0) (h1 : x.f1 = y.f1) (h2 : x.f2 = y.f2) : x = y := by cases x; cases y; simp at h0 h1 h2; simp [h0, h1, h2]
theorem one_bad (X Y : S36) : Ev (fun k => r18_One.j0 k true X.f0 X.f1.f0.f0 X.f1.f0.f1 X.f1.f0.f2 X.f1.f1 X.f2 X.f3 X.f4 X.f5 X.f6 X.f7 X.f8 Y.f0 Y.f1.f0.f0 Y.f1.f0.f1 Y.f1.f0.f2 Y.f1.f1 Y.f2 Y.f3 Y.f4 Y.f5 Y.f6 Y.f7 Y.f8) false := by
  refine Ev.step (f := fun _ => some false) (fun k => ?_) (Ev.now _)
  rw [r18_One.j0, if_pos rfl]
open Classical in
theorem one_loop (X Y : S36) (hl : X.f8.length ≤ 1000) (he : X.f8.length = Y.f8.length) : ∀ (d i : Nat), X.f8.length - i = d → i ≤ X.f8.length → Ev (fun k => r18_One.l0 k (i : Int) X.f0 X.f1.f0.f0 X.f1.f0.f1 X.f1.f0.f2 X.f1.f1 X.f2 X.f3 X.f4 X.f5 X.f6 X.f7 X.f8 Y.f0 Y.f1.f0.f0 Y.f1.f0.f1 Y.f1.f0.f2 Y.f1.f1 Y.f2 Y.f3 Y.f4 Y.f5 Y.f6 Y.f7 Y.f8) (decide (X.f8.drop i = Y.f8.drop i))
  | 0, i, hd, hi => by
    rw [List.drop_of_length_le (by omega), List.drop_of_length_le (by omega), decide_eq_true rfl]
    refine Ev.step (f := fun _ => some true) (fun k => ?_) (Ev.now _)
    rw [r18_One.l0, if_neg (by omega)]
  | d + 1, i, hd, hi => by
    have h : i < X.f8.length := by omega
    have h2 : i < Y.f8.length := by omega
    have ih := one_loop X Y hl he d (i + 1) (by omega) (by omega)
    have ex := sv_get h
    have ey := sv_get h2
    rw [List.drop_eq_getElem_cons h, List.drop_eq_getElem_cons h2]
    obtain ⟨x, hx⟩ : ∃ x, X.f8[i] = x := ⟨_, rfl⟩
    obtain ⟨y, hy⟩ : ∃ y, Y.f8[i] = y := ⟨_, rfl⟩
    rw [hx] at ex ⊢
    rw [hy] at ey ⊢
    by_cases c : x = y
    · subst c
      refine ev_to ?_ (Ev.step (fun k => ?_) ih)
      · rw [Bool.eq_iff_iff, decide_eq_true_eq, decide_eq_true_eq]
        simp
      · rw [r18_One.l0, if_pos (by omega), if_pos (by omega), if_pos (by omega), ex, ey, if_neg (by simp), lx_up (by omega)]
    · rw [decide_eq_false (by simp [c])]
      refine Ev.step (f := fun _ => some false) (fun k => ?_) (Ev.now _)
      rw [r18_One.l0, if_pos (by omega), if_pos (by omega), if_pos (by omega), ex, ey, if_pos ?_]
      by_cases c0 : x.f0 = y.f0
      · by_cases c1 : x.f1 = y.f1
        · have c2 : ¬ x.f2 = y.f2 := fun c2 => c (svc_ext c0 c1 c2)
          simp [c0, c1, c2]
        · simp [c0, c1]
      · simp [c0]
theorem as_ext {X Y : S36} (h0 : X.f0 = Y.f0) (h1 : X.f1 = Y.f1) (h2 : X.f2 = Y.f2) (h3 : X.f3 = Y.f3) (h4 : X.f4 = Y.f4) (h5 : X.f5 = Y.f5) (h6 : X.f6 = Y.f6) (h7 : X.f7 = Y.f7) (h8 : X.f8 = Y.f8) : X = Y := by cases X; cases Y; simp at h0 h1 h2 h3 h4 h5 h6 h7 h8; simp [h0, h1, h2, h3, h4, h5, h6, h7, h8]
theorem px_ext {x y : Px} (h0 : x.f0.f0 = y.f0.f0) (h1 : x.f0.f1 = y.f0.f1) (h2 : x.f0.f2 = y.f0.f2) (h3 : x.f1 = y.f1) : x = y := by obtain ⟨⟨a, b, c⟩, d⟩ := x; obtain ⟨⟨a', b', c'⟩, d'⟩ := y; simp at h0 h1 h2 h3; simp [h0, h1, h2, h3]
theorem ba_ext {s t : ByteArray} (h : s.toList = t.toList) : s = t := by
  rw [ByteArray.toList_eq, ByteArray.toList_eq] at h
  apply ByteArray.ext
  exact Array.toList_inj.1 h
open Classical in
theorem one_eq_ev (X Y : S36) (hl : X.f8.length ≤ 1000) : Ev (fun k => r18_One.f k X.f0 X.f1.f0.f0 X.f1.f0.f1 X.f1.f0.f2 X.f1.f1 X.f2 X.f3 X.f4 X.f5 X.f6 X.f7 X.f8 Y.f0 Y.f1.f0.f0 Y.f1.f0.f1 Y.f1.f0.f2 Y.f1.f1 Y.f2 Y.f3 Y.f4 Y.f5 Y.f6 Y.f7 Y.f8) (decide (X = Y)) := by
  unfold r18_One.f
  have hno : ∀ {p : Prop}, (X = Y → p) → ¬ p → decide (X = Y) = false := fun h1 h2 => decide_eq_false (fun e => h2 (h1 e))
  refine ev_ite (fun c0 => ?_) fun c0 => ev_to (hno (fun e => by rw [e]) c0).symm (one_bad X Y)
  refine ev_ite (fun c1 => ev_to (decide_eq_false (fun e => ?_)).symm (one_bad X Y)) fun c1 => ?_
  · rw [e] at c1; simp at c1
  refine ev_ite (fun c2 => ?_) fun c2 => ev_to (hno (fun e => by rw [e]) c2).symm (one_bad X Y)
  refine ev_ite (fun c3 => ?_) fun c3 => ev_to (hno (fun e => by rw [e]) c3).symm (one_bad X Y)
  refine ev_ite (fun c4 => ?_) fun c4 => ev_to (hno (fun e => by rw [e]) c4).symm (one_bad X Y)
  refine ev_ite (fun c5 => ?_) fun c5 => ev_to (hno (fun e => by rw [e]) c5).symm (one_bad X Y)
  refine ev_ite (fun c6 => ev_to (decide_eq_false (fun e => ?_)).symm (one_bad X Y)) fun c6 => ?_
  · rw [e] at c6; simp at c6
  refine ev_ite (fun c7 => ?_) fun c7 => ev_to (hno (fun e => by rw [e]) c7).symm (one_bad X Y)
  by_cases c8 : X.f8.length = Y.f8.length
  · rw [show ((X.f8.length : Int) != (Y.f8.length : Int)) = false from by rw [c8]; simp]
    have h := one_loop X Y hl c8 _ 0 rfl (by omega)
    refine Ev.step (f := fun k => r18_One.l0 k 0 X.f0 X.f1.f0.f0 X.f1.f0.f1 X.f1.f0.f2 X.f1.f1 X.f2 X.f3 X.f4 X.f5 X.f6 X.f7 X.f8 Y.f0 Y.f1.f0.f0 Y.f1.f0.f1 Y.f1.f0.f2 Y.f1.f1 Y.f2 Y.f3 Y.f4 Y.f5 Y.f6 Y.f7 Y.f8) (fun k => by rw [r18_One.j0, if_neg Bool.false_ne_true]) (ev_to ?_ h)
    rw [List.drop_zero, List.drop_zero, Bool.eq_iff_iff, decide_eq_true_eq, decide_eq_true_eq]
    refine ⟨fun e => ?_, fun e => by rw [e]⟩
    have hp : X.f1 = Y.f1 := by
      simp only [Bool.or_eq_true, Bool.not_eq_true', beq_eq_false_iff_ne, ne_eq, not_or, Classical.not_not] at c1
      exact px_ext c1.1.1 c1.1.2.1 c1.1.2.2 c1.2
    have h6 : X.f6 = Y.f6 := by simpa using c6
    exact as_ext (ba_ext c0) hp c2 c3 c4 c5 h6 c7 e
  · rw [show ((X.f8.length : Int) != (Y.f8.length : Int)) = true from by rw [bne_iff_ne]; omega]
    exact ev_to (hno (fun e => by rw [e]) c8).symm (one_bad X Y)
open Classical in
theorem one_some (X Y : S36) (hl : X.f8.length ≤ 1000) : ∃ v : Bool, (v = true ↔ X = Y) ∧ Ev (fun k => r18_One.f k X.f0 X.f1.f0.f0 X.f1.f0.f1 X.f1.f0.f2 X.f1.f1 X.f2 X.f3 X.f4 X.f5 X.f6 X.f7 X.f8 Y.f0 Y.f1.f0.f0 Y.f1.f0.f1 Y.f1.f0.f2 Y.f1.f1 Y.f2 Y.f3 Y.f4 Y.f5 Y.f6 Y.f7 Y.f8) v := ⟨_, decide_eq_true_iff, one_eq_ev X Y hl⟩
theorem chkR_nc : ∀ (l pre : List S36), chkR pre l = 0 → (∀ x ∈ pre, ∀ y ∈ l, clash x y = false) ∧ l.Pairwise (fun x y => clash x y = false)
  | [], pre, _ => ⟨fun x _ y hy => (by cases hy), List.Pairwise.nil⟩
  | b :: bs, pre, h => by
    rw [chkR] at h
    split at h
    · split at h
      · cases h
      · rename_i hc
        split at h
        · cases h
        · obtain ⟨i1, i2⟩ := chkR_nc bs _ h
          have hb : ∀ x ∈ pre, clash x b = false := fun x hx => by
            cases hcl : clash x b
            · rfl
            · exact absurd (List.any_eq_true.2 ⟨x, hx, hcl⟩) hc
          refine ⟨fun x hx y hy => ?_, List.Pairwise.cons (fun y hy => i1 b (by simp) y hy) i2⟩
          rcases List.mem_cons.1 hy with rfl | hy
          · exact hb x hx
          · exact i1 x (List.mem_append_left _ hx) y hy
    · rename_i h0
      exact absurd h h0
theorem pw_two {l : List S36} (h : l.Pairwise (fun x y => clash x y = false)) : ∀ {X Y : S36}, X ∈ l → Y ∈ l → X.f1 = Y.f1 → X = Y := by
  induction h with
  | nil => intro X Y hX; cases hX
  | cons h1 h2 ih =>
    intro X Y hX hY e
    have hc : ∀ {u v : S36}, u.f1 = v.f1 → clash u v = true := fun {u v} e => by unfold clash; rw [e]; simp
    rcases List.mem_cons.1 hX with e1 | hX2
    · rcases List.mem_cons.1 hY with e2 | hY2
      · rw [e1, e2]
      · have := h1 Y hY2; rw [← e1, hc e] at this; cases this
    · rcases List.mem_cons.1 hY with e2 | hY2
      · have := h1 X hX2; rw [← e2, hc e.symm] at this; cases this
      · exact ih hX2 hY2 e
end Go.Proofs.YtnphnhkinjppjaaGreatDoor.Q
end

section
set_option maxHeartbeats 8000000
set_option maxRecDepth 100000
namespace Go.Proofs.YtnphnhkinjppjaaGreatDoor.Q
open Go.RowKit Go.Proofs.YtnphnhkinjppjaaGreatDoorW.PrintWords Go.Proofs.YtnphnhkinjppjaaGreatDoorW.PrintLast Go.Proofs.YtnphnhkinjppjaaGreatDoorW.PrintMore
theorem far12 {w : World} {g h : Nat} {o : Obj} {v0 v1 v2 v3 v4 v5 v6 v7 v8 v9 v10 v11 : Value} (hh : w.heap[h]? = some o) (hne : h ≠ g) : ((((((((((((w.setCell ⟨g, 0, none⟩ v0).setCell ⟨g, 1, none⟩ v1).setCell ⟨g, 2, none⟩ v2).setCell ⟨g, 3, none⟩ v3).setCell ⟨g, 4, none⟩ v4).setCell ⟨g, 5, none⟩ v5).setCell ⟨g, 6, none⟩ v6).setCell ⟨g, 7, none⟩ v7).setCell ⟨g, 8, none⟩ v8).setCell ⟨g, 9, none⟩ v9).setCell ⟨g, 10, none⟩ v10).setCell ⟨g, 11, none⟩ v11).heap[h]? = some o := by
  repeat (refine (Below.heap_setCell _ _ _ _ hne).trans ?_)
  exact hh
structure FindI (w wr : World) (ga gr gb : Nat) (l : List S36) (b0 : Bool) (b1 b2 : Int) (best : S36) (Ab : Option Addr) (cb : Nat) : Prop where
  bel : Below w.heap.size w wr
  adr : wr.heap[ga]? = some (.cells #[.bool b0, .int .u64 b1, .int .u64 b2] 31 (0, 0))
  res : wr.heap[gr]? = some (.cells as0 36 (0, 0))
  bst : wr.heap[gb]? = some (.cells (asC best (.slice Ab best.f8.length cb)) 36 (0, 0))
  svc : Kd.C k74 w Ab best.f8.length best.f8
  sml : best.f8.length < 1000000
theorem FindI.below {w W W1 : World} {ga gr gb : Nat} {l : List S36} {b0 : Bool} {b1 b2 : Int} {best : S36} {Ab : Option Addr} {cb : Nat} (h : FindI w W ga gr gb l b0 b1 b2 best Ab cb) (hb : Below W.heap.size W W1) : FindI w W1 ga gr gb l b0 b1 b2 best Ab cb := ⟨below_then h.bel h.bel.size hb, blk_below h.adr hb, blk_below h.res hb, blk_below h.bst hb, h.svc, h.sml⟩
theorem find_no {b0 : Bool} {b1 b2 : Int} {l : List S36} {i : Nat} {best : S36} {bits : Int} {o : Option (S36)} {a : S36} (hi : i < l.length) (ha : rd_T36 l (i : Int) = a) (h : findBest b0 b1 b2 (l.drop i) best bits = o) (hb : ¬ bits < a.f1.f1) : findBest b0 b1 b2 (l.drop (i + 1)) best bits = o := by
  rw [List.drop_eq_getElem_cons hi, findBest, ← tab_get hi, ha, if_neg hb] at h
  exact h
theorem find_yes {b0 : Bool} {b1 b2 : Int} {l : List S36} {i : Nat} {best : S36} {bits : Int} {r : S36} {a : S36} (hi : i < l.length) (ha : rd_T36 l (i : Int) = a) (h : findBest b0 b1 b2 (l.drop i) best bits = some r) (hb : bits < a.f1.f1) : ∃ c, address_Contains.f a.f1.f0.f0 a.f1.f0.f1 a.f1.f0.f2 a.f1.f1 b0 b1 b2 = some c ∧ (if c = true then findBest b0 b1 b2 (l.drop (i + 1)) a a.f1.f1 else findBest b0 b1 b2 (l.drop (i + 1)) best bits) = some r := by
  rw [List.drop_eq_getElem_cons hi, findBest, ← tab_get hi, ha, if_pos hb] at h
  exact Option.bind_eq_some_iff.mp h
theorem find_ok (w0 w : World) (p : Nat) (l : List S36) (v : Value) (b0 : Bool) (b1 b2 : Int) (r : S36) (hT : TabW w0 w p l v) (hl : l.length ≤ 1000) (hs : ∀ a ∈ l, a.f8.length < 1000000) (h : asset_Find.f l b0 b1 b2 = some r) :
    Calls Tryz.prog 27 #[.pointer (some ⟨p, 0, none⟩), .agg #[.bool b0, .int .u64 b1, .int .u64 b2]] w fun e w' => ∃ v', e = .returned (.agg (asC r v')) ∧ Kd.R k74 74 w' w.heap.size (fun _ => True) v' r.f8 ∧ Below w.heap.size w w' := by
  have hu := Tryz.underlying36
  have hu2 := Tryz.underlying93
  have hu3 := Tryz.underlying33
  have hu4 := Tryz.underlying31
  have hsz : (w.alloc (.cells #[.bool b0, .int .u64 b1, .int .u64 b2] 31)).heap.size = w.heap.size + 1 := by show (w.heap.push _).size = _; rw [Array.size_push]
  have HX : Aside0 ((w.alloc (.cells #[.bool b0, .int .u64 b1, .int .u64 b2] 31)).heap[w.heap.size]? = some (.cells #[.bool b0, .int .u64 b1, .int .u64 b2] 31 (0, 0))) := ⟨heap_alloc_new _ _⟩
  replace HX := Aside0.mk (blk_alloc HX.out (.cells as0 36))
  have HY : Aside0 (((w.alloc (.cells #[.bool b0, .int .u64 b1, .int .u64 b2] 31)).alloc (.cells as0 36)).heap[(w.alloc (.cells #[.bool b0, .int .u64 b1, .int .u64 b2] 31)).heap.size]? = some (.cells as0 36 (0, 0))) := ⟨heap_alloc_new _ _⟩
  have HB := Aside0.mk (below_alloc (below_alloc (Below.refl w.heap.size w) (.cells #[.bool b0, .int .u64 b1, .int .u64 b2] 31)) (.cells as0 36))
  rw [hsz] at HY
  clear hsz
  have HT := Aside0.mk (hT.below HB.out)
  have HT0 := Aside0.mk hT
  have HS := Aside0.mk hs
  have HH := Aside0.mk h
  obtain ⟨Al, cl, hv⟩ := Kd.R_slice hT.out
  subst hv
  obtain ⟨n, hn⟩ : ∃ n, l.length = n := ⟨_, rfl⟩
  have HC := Aside0.mk (Kd.R_reads' HT0.out.out).2.2
  rw [hn] at HT hl
  have HN := Aside0.mk hn
  have HL := Aside0.mk hl
  clear hT h hl hn hs HT0
  go_enter Tryz.func27, Tryz.ntmps27
  go_upto_region 1 with (fail)
  obtain ⟨ga, hga⟩ : ∃ x, w.heap.size = x := ⟨_, rfl⟩
  obtain ⟨gr, hgr⟩ : ∃ x, w.heap.size + 1 = x := ⟨_, rfl⟩
  have HG : Aside0 (w.heap.size ≤ ga ∧ w.heap.size ≤ gr ∧ ga < gr) := ⟨by omega⟩
  rw [hgr] at HY
  simp only [hgr]
  rw [hga] at HX
  simp only [hga]
  clear hgr hga
  change Code.wp _ _ _ _ ((w.alloc (.cells #[.bool b0, .int .u64 b1, .int .u64 b2] 31)).alloc (.cells as0 36))
  generalize (w.alloc (.cells #[.bool b0, .int .u64 b1, .int .u64 b2] 31)).alloc (.cells as0 36) = W1 at HX HY HB HT ⊢
  go_wp2_with fail
  refine (asset_Default.calls _ _ _ _ _ _ _ _ _ _ _ _ W1 rfl).mono ?_
  rintro e W2 ⟨v0, rfl, ho, hb⟩
  replace HT := Aside0.mk (HT.out.below hb)
  obtain ⟨A0, c0, hv0⟩ := Kd.R_slice ho
  subst hv0
  replace HX := Aside0.mk (blk_below HX.out hb)
  replace HY := Aside0.mk (blk_below HY.out hb)
  replace HB := Aside0.mk (below_then HB.out HB.out.size hb)
  have HK0 : Aside0 (Kd.C k74 w A0 aDef.f8.length aDef.f8) := ⟨rfl, by decide, fun h => absurd h (by decide)⟩
  clear ho hb
  have q0 := zc (Aside0.mk (blk_alloc HT.out.blk (.cells (asC aDef (.slice A0 aDef.f8.length c0)) 36))) 0
  go_upto_region 4 with (fail)
  have HD : Aside0 ((W2.alloc (.cells (asC aDef (.slice A0 aDef.f8.length c0)) 36)).heap[W2.heap.size]? = some (.cells (asC aDef (.slice A0 aDef.f8.length c0)) 36 (0, 0))) := ⟨heap_alloc_new _ _⟩
  have HF : Aside0 (FindI w (W2.alloc (.cells (asC aDef (.slice A0 aDef.f8.length c0)) 36)) ga gr W2.heap.size l b0 b1 b2 aDef A0 c0) := ⟨below_alloc HB.out _, blk_alloc HX.out _, blk_alloc HY.out _, HD.out, HK0.out, by decide⟩
  have HG2 : Aside0 (ga < W2.heap.size ∧ gr < W2.heap.size ∧ w.heap.size ≤ W2.heap.size) := ⟨blk_lt HX.out, blk_lt HY.out, HB.out.size⟩
  clear HX HY HB HT HK0 HD
  obtain ⟨gb, hgb⟩ : ∃ x, W2.heap.size = x := ⟨_, rfl⟩
  rw [hgb] at HF HG2
  simp only [hgb]
  clear hgb
  change Code.wp _ _ _ _ (W2.alloc (.cells (asC aDef (.slice A0 aDef.f8.length c0)) 36))
  generalize W2.alloc (.cells (asC aDef (.slice A0 aDef.f8.length c0)) 36) = W3 at HF q0 ⊢
  go_upto_region 5 with (fail)
  clear q0
  go_loopg [6, 18] (n + 1) (fun gg v6 v18 wr => ∃ (i : Nat) (best : S36) (bits : Int) (Ab : Option Addr) (cb : Nat), v18 = .int .i64 (i : Int) ∧ v6 = .int .i64 bits ∧ Aside0 (gg + i = n + 1 ∧ i ≤ n) ∧ Aside0 (findBest b0 b1 b2 (l.drop i) best bits = some r) ∧ Aside0 (FindI w wr ga gr gb l b0 b1 b2 best Ab cb))
  case atStart => exact ⟨0, aDef, -1, A0, c0, rfl, rfl, ⟨by omega, by omega⟩, ⟨HH.out⟩, HF⟩
  case round =>
    clear HF HH W3
    obtain ⟨i, best, bits, Ab, cb, rfl, rfl, HI, HE, HF⟩ := hrel
    by_cases hi : i < n
    · have HII := Aside0.mk hi
      have b1' : decide ((i : Int) < (n : Int)) = true := decide_eq_true (by omega)
      have b2' : decide (i < n) = true := decide_eq_true hi
      have b3 : n ≤ 1000000 := by have := HL.out; omega
      obtain ⟨ad, Ax, cx, rfl, k0, k1, k2, k3, k4, k5, k6, k7, k8, k9, k10, k11, kl, kc⟩ := at_T36 HC.out (i : Int) (by omega) (by rw [HN.out]; omega)
      replace k0 := pw_cell_below HF.out.bel k0
      replace k1 := pw_cell_below HF.out.bel k1
      replace k2 := pw_cell_below HF.out.bel k2
      replace k3 := pw_cell_below HF.out.bel k3
      replace k4 := pw_cell_below HF.out.bel k4
      replace k5 := pw_cell_below HF.out.bel k5
      replace k6 := pw_cell_below HF.out.bel k6
      replace k7 := pw_cell_below HF.out.bel k7
      replace k8 := pw_cell_below HF.out.bel k8
      replace k9 := pw_cell_below HF.out.bel k9
      replace k10 := pw_cell_below HF.out.bel k10
      replace k11 := pw_cell_below HF.out.bel k11
      simp only [Int.toNat_natCast] at k0 k1 k2 k3 k4 k5 k6 k7 k8 k9 k10 k11
      have HSM : Aside0 ((rd_T36 l (i : Int)).f8.length < 1000000) := ⟨HS.out _ (tab_mem (by rw [HN.out]; exact hi))⟩
      obtain ⟨a, ha⟩ : ∃ a, rd_T36 l (i : Int) = a := ⟨_, rfl⟩
      rw [ha] at k0 k1 k2 k3 k4 k5 k6 k7 k8 k9 k10 k11 kl kc HSM
      have HAA := Aside0.mk ha
      have HKC := Aside0.mk kc
      clear kl kc ha
      go_upto_region 7 with (fail)
      clear hi
      obtain ⟨gx, hgx⟩ : ∃ x, wr.heap.size = x := ⟨_, rfl⟩
      have HA : Aside0 ((wr.alloc (.cells (asC a (.slice Ax a.f8.length cx)) 36)).heap[wr.heap.size]? = some (.cells (asC a (.slice Ax a.f8.length cx)) 36 (0, 0))) := ⟨heap_alloc_new _ _⟩
      have HNE : Aside0 (gb ≠ wr.heap.size) := ⟨by have := blk_lt HF.out.bst; omega⟩
      rw [hgx] at HA HNE
      simp only [hgx]
      clear hgx k0 k1 k2 k3 k4 k5 k6 k7 k8 k9 k10 k11
      replace HF := Aside0.mk (HF.out.below (below_alloc (Below.refl _ _) (.cells (asC a (.slice Ax a.f8.length cx)) 36)))
      change Code.wp _ _ _ _ (wr.alloc (.cells (asC a (.slice Ax a.f8.length cx)) 36))
      generalize wr.alloc (.cells (asC a (.slice Ax a.f8.length cx)) 36) = W1 at HA HF ⊢
      obtain ⟨d0, d1, d2, d3, d4, d5, d6, d7, d8, d9, d10, d11⟩ := zc12 HA
      obtain ⟨q0, q1, q2⟩ := zc3 (Aside0.mk HF.out.adr)
      have hi2 : i < n := HII.out
      have HI1 : Aside0 ((n - i) + (i + 1) = n + 1 ∧ i + 1 ≤ n) := ⟨by have := HII.out; omega, HII.out⟩
      by_cases hb : bits < a.f1.f1
      · obtain ⟨c, hc, hcs⟩ := find_yes (by rw [HN.out]; exact hi2) HAA.out HE.out hb
        have HCC := Aside0.mk hc
        have HCS := Aside0.mk hcs
        have g1 : decide (bits < a.f1.f1) = true := decide_eq_true hb
        have g2 : decide (a.f1.f1 > bits) = true := decide_eq_true hb
        clear hc hcs
        go_wp2_with fail
        refine (address_Contains.calls _ _ _ _ _ _ _ c W1 HCC.out).mono ?_
        rintro e w2 ⟨rfl, hb2⟩
        replace HA := Aside0.mk (blk_below HA.out hb2)
        replace HF := Aside0.mk (HF.out.below hb2)
        clear hb2 d0 d1 d2 d3 d4 d5 d6 d7 d8 d9 d10 d11 q0 q1 q2
        cases c
        · have HCS2 : Aside0 (findBest b0 b1 b2 (l.drop (i + 1)) best bits = some r) := ⟨by have h := HCS.out; rwa [if_neg Bool.false_ne_true] at h⟩
          go_wp2
          go_roundg (n - i)
          case measure => have := HI.out.1; have := HII.out; omega
          case rel => exact ⟨i + 1, best, bits, Ab, cb, by (have := HII.out; go_num), rfl, HI1, HCS2, HF⟩
        · have HCS2 : Aside0 (findBest b0 b1 b2 (l.drop (i + 1)) a a.f1.f1 = some r) := ⟨by have h := HCS.out; rwa [if_pos rfl] at h⟩
          go_upto_region 8 with (fail)
          refine start_ (n := 6) (S := fun w' => w'.cell? ⟨gx, 0, none⟩ = some (.string a.f0) ∧ w'.cell? ⟨gx, 1, none⟩ = some (.bool a.f1.f0.f0) ∧ w'.cell? ⟨gx, 2, none⟩ = some (.int .u64 a.f1.f0.f1) ∧ w'.cell? ⟨gx, 3, none⟩ = some (.int .u64 a.f1.f0.f2) ∧ w'.cell? ⟨gx, 4, none⟩ = some (.int .i64 a.f1.f1) ∧ w'.cell? ⟨gx, 5, none⟩ = some (.int .i64 a.f2) ∧ w'.cell? ⟨gx, 6, none⟩ = some (.int .i64 a.f3) ∧ w'.cell? ⟨gx, 7, none⟩ = some (.int .i64 a.f4) ∧ w'.cell? ⟨gx, 8, none⟩ = some (.int .i64 a.f5) ∧ w'.cell? ⟨gx, 9, none⟩ = some (.bool a.f6) ∧ w'.cell? ⟨gx, 10, none⟩ = some (.int .i64 a.f7) ∧ w'.cell? ⟨gx, 11, none⟩ = some (.slice Ax a.f8.length cx)) (ds := []) #[false, false, false, false, false, false] (by kernel_rfl) rfl rfl ⟨zc (HA) 0, zc (HA) 1, zc (HA) 2, zc (HA) 3, zc (HA) 4, zc (HA) 5, zc (HA) 6, zc (HA) 7, zc (HA) 8, zc (HA) 9, zc (HA) 10, zc (HA) 11⟩ (fun hHeld => ?_)
          replace HF := Aside0.mk (HF.out.below (Below.drew (Below.refl _ _)))
          replace HA : Aside0 (w2.drew.heap[gx]? = some (.cells (asC a (.slice Ax a.f8.length cx)) 36 (0, 0))) := ⟨HA.out⟩
          generalize w2.drew = W4 at HA HF hHeld ⊢
          refine zt0 0 33 hHeld ?_; refine zp0 1 34 ?_; refine zp0 2 35 ?_; refine zt0 3 36 hHeld ?_
          have HBST := Aside0.mk HF.out.bst
          obtain ⟨d0, d1, d2, d3, d4, d5, d6, d7, d8, d9, d10, d11⟩ := zc12 HBST
          obtain ⟨f0, f1, f2, f3, f4, f5, f6, f7, f8, f9, f10, f11⟩ := zf12 HBST
          refine one_ (i := 4) (N := none) #[true, true, true, true, true, false] rfl rfl (by kernel_rfl) (by decide) (fun K hK => ?_)
          refine skip_ (w1 := ?_) (by rfl) rfl ?_ ?_
          rotate_left
          · go_simp
            rfl
          have HA4 := Aside0.mk (far12 (v0 := .string a.f0) (v1 := .bool a.f1.f0.f0) (v2 := .int .u64 a.f1.f0.f1) (v3 := .int .u64 a.f1.f0.f2) (v4 := .int .i64 a.f1.f1) (v5 := .int .i64 a.f2) (v6 := .int .i64 a.f3) (v7 := .int .i64 a.f4) (v8 := .int .i64 a.f5) (v9 := .bool a.f6) (v10 := .int .i64 a.f7) (v11 := .slice Ax a.f8.length cx) HA.out (Ne.symm HNE.out))
          refine hK.out _ _ ⟨zc (HA4) 0, zc (HA4) 1, zc (HA4) 2, zc (HA4) 3, zc (HA4) 4, zc (HA4) 5, zc (HA4) 6, zc (HA4) 7, zc (HA4) 8, zc (HA4) 9, zc (HA4) 10, zc (HA4) 11⟩ (fun hHeld => ?_)
          clear hK K d0 d1 d2 d3 d4 d5 d6 d7 d8 d9 d10 d11 f0 f1 f2 f3 f4 f5 f6 f7 f8 f9 f10 f11 HA4
          refine zp0 5 6 ?_
          refine zd0 ?_
          have HF2 : Aside0 (FindI w _ ga gr gb l b0 b1 b2 a Ax cx) := ⟨below12 HF.out.bel (by have := HG2.out; omega), far12 HF.out.adr (by have := HG2.out; omega), far12 HF.out.res (by have := HG2.out; omega), put12 HF.out.bst, HKC.out, HSM.out⟩
          go_wp2
          go_roundg (n - i)
          case measure => have := HI.out.1; have := HII.out; omega
          case rel => exact ⟨i + 1, a, a.f1.f1, Ax, cx, by (have := HII.out; go_num), rfl, HI1, HCS2, HF2⟩
      · have HCS2 := Aside0.mk (find_no (by rw [HN.out]; exact hi2) HAA.out HE.out hb)
        have g1 : decide (bits < a.f1.f1) = false := decide_eq_false hb
        have g2 : decide (a.f1.f1 > bits) = false := decide_eq_false hb
        go_wp2
        go_roundg (n - i)
        case measure => have := HI.out.1; have := HII.out; omega
        case rel => exact ⟨i + 1, best, bits, Ab, cb, by (have := HII.out; go_num), rfl, HI1, HCS2, HF⟩
    · have b1' : decide ((i : Int) < (n : Int)) = false := decide_eq_false (by omega)
      have b2' : decide (i < n) = false := decide_eq_false hi
      have HR : Aside0 (best = r) := ⟨by have h := HE.out; rw [List.drop_of_length_le (by rw [HN.out]; omega), findBest] at h; exact Option.some.inj h⟩
      obtain ⟨d0, d1, d2, d3, d4, d5, d6, d7, d8, d9, d10, d11⟩ := zc12 (Aside0.mk HF.out.bst)
      have HGR : Aside0 (w.heap.size ≤ gr) := ⟨HG.out.2.1⟩
      go_wp2_with fail
      refine (clone_walk' best Ab cb wr (Kd.C_below HF.out.svc HF.out.bel) HF.out.sml).mono ?_
      rintro e w5 ⟨g, rfl, ho, hb⟩
      clear d0 d1 d2 d3 d4 d5 d6 d7 d8 d9 d10 d11
      have HO := Aside0.mk ho
      have HSZ := Aside0.mk HF.out.bel.size
      have HY5 := Aside0.mk (blk_below HF.out.res hb)
      have HB5 := Aside0.mk (below_then HF.out.bel HF.out.bel.size hb)
      clear ho hb HF
      obtain ⟨f0, f1, f2, f3, f4, f5, f6, f7, f8, f9, f10, f11⟩ := zf12 HY5
      obtain ⟨x0, x1, x2, x3, x4, x5, x6, x7, x8, x9, x10, x11⟩ := zc12 HY5
      go_wp2
      refine bodyPost_ret (results_cell_row rfl _ _ gr 36 (asC best (.slice (some ⟨g, 0, none⟩) best.f8.length best.f8.length)) (0, 0) _ rfl (put12 HY5.out) Tryz.underlying36 rfl (by kernel_rfl)) rfl ?_
      refine ⟨.slice (some ⟨g, 0, none⟩) best.f8.length best.f8.length, by rw [HR.out], ?_, below12 HB5.out HGR.out⟩
      rw [← HR.out]
      exact putR HY5.out (Kd.R_lower HO.out HSZ.out)
end Go.Proofs.YtnphnhkinjppjaaGreatDoor.Q
end

section
namespace Go.Proofs.YtnphnhkinjppjaaGreatDoor.Q
open Go.RowKit Go.Proofs.YtnphnhkinjppjaaGreatDoorW.PrintWords Go.Proofs.YtnphnhkinjppjaaGreatDoorW.PrintLast Go.Proofs.YtnphnhkinjppjaaGreatDoorW.PrintMore
attribute [local go_sem] max2_int min2_int max_two min_two max_three min_three max_four min_four
def r18_Default.f  : Option (ByteArray × Bool × Int × Int × Int × Int × Int × Int × Int × Bool × Int × (List (S74))) := some ((⟨#[100, 101, 102, 97, 117, 108, 116]⟩ : ByteArray), false, 0, 0, 0, 1, 1, 0, 8192, false, 1, ([] : List (S74)))
end Go.Proofs.YtnphnhkinjppjaaGreatDoor.Q
end

section
namespace Go.Proofs.YtnphnhkinjppjaaGreatDoor.Q
open Go.RowKit Go.Proofs.YtnphnhkinjppjaaGreatDoorW.PrintWords Go.Proofs.YtnphnhkinjppjaaGreatDoorW.PrintLast Go.Proofs.YtnphnhkinjppjaaGreatDoorW.PrintMore
structure RFi (w wr : World) (ga gr gb p : Nat) (A : Option Addr) (n c : Nat) (b : Ad) (best : S36) (Ab : Option Addr) (cb : Nat) : Prop where
  bel : Below w.heap.size w wr
  adr : wr.heap[ga]? = some (.cells #[.bool b.f0, .int .u64 b.f1, .int .u64 b.f2] 31 (0, 0))
  res : wr.heap[gr]? = some (.cells as0 36 (0, 0))
  bst : wr.heap[gb]? = some (.cells (asC best (.slice Ab best.f8.length cb)) 36 (0, 0))
  tab : wr.heap[p]? = some (.cells #[.slice A n c] 96 (0, 0))
  svc : Kd.C k74 w Ab best.f8.length best.f8
  cap : best.f8.length ≤ cb
theorem RFi.below {w W W1 : World} {ga gr gb p : Nat} {A : Option Addr} {n c : Nat} {b : Ad} {best : S36} {Ab : Option Addr} {cb : Nat} (h : RFi w W ga gr gb p A n c b best Ab cb) (hb : Below W.heap.size W W1) : RFi w W1 ga gr gb p A n c b best Ab cb := ⟨below_then h.bel h.bel.size hb, blk_below h.adr hb, blk_below h.res hb, blk_below h.bst hb, blk_below h.tab hb, h.svc, h.cap⟩
end Go.Proofs.YtnphnhkinjppjaaGreatDoor.Q
end

section
set_option maxHeartbeats 8000000
set_option maxRecDepth 100000
namespace Go.Proofs.YtnphnhkinjppjaaGreatDoor.Q
open Go.RowKit Go.Proofs.YtnphnhkinjppjaaGreatDoorW.PrintWords Go.Proofs.YtnphnhkinjppjaaGreatDoorW.PrintLast Go.Proofs.YtnphnhkinjppjaaGreatDoorW.PrintMore
attribute [local go_sem] max2_int min2_int max_two min_two max_three min_three max_four min_four
def asset_App.l0 : Nat → Int → Int → List (S74) → Int → Int → Option (Int)
  | 0, _, _, _, _, _ => none
  | k + 1, x1, x2, x10, x11, x12 => if x12 < x11 then (if 0 ≤ x12 then (if x12 < (x10.length : Int) then (if ((rd_T74 x10 x12).f0) = x1 then (if ((rd_T74 x10 x12).f1) = x2 then (some ((rd_T74 x10 x12).f2)) else (asset_App.l0 k x1 x2 x10 x11 (wrap64 (x12 + 1)))) else (asset_App.l0 k x1 x2 x10 x11 (wrap64 (x12 + 1)))) else (none)) else (none)) else (some 0)
def asset_App.f (k : Nat) (a0_0 : ByteArray) (a0_1 : Bool) (a0_2 : Int) (a0_3 : Int) (a0_4 : Int) (a0_5 : Int) (a0_6 : Int) (a0_7 : Int) (a0_8 : Int) (a0_9 : Bool) (a0_10 : Int) (l0_11 : List (S74)) (a1 : Int) (a2 : Int) : Option (Int) := asset_App.l0 k a1 a2 l0_11 (l0_11.length : Int) 0
theorem asset_App.mono_l : ∀ k, (∀ y0 y1 y2 y3 y4, LeO (asset_App.l0 k y0 y1 y2 y3 y4) (asset_App.l0 (k + 1) y0 y1 y2 y3 y4))
  | 0 => fun _ _ _ _ _ r h => by simp [asset_App.l0] at h
  | k + 1 => by
    have ih0 := asset_App.mono_l k
    · intro y0 y1 y2 y3 y4
      unfold asset_App.l0
      repeat' first
      | (with_reducible exact ih0 _ _ _ _ _)
      | (with_reducible exact LeO.refl _)
      | (with_reducible exact LeO.none _)
      | (with_reducible refine LeO.ite ?_ ?_)
      | (with_reducible refine LeO.bind ?_ (fun _ => ?_))
theorem asset_App.mono : ∀ a0 a1 a2 a3 a4 a5 a6 a7 a8 a9 a10 a11 a12 a13 k, LeO (asset_App.f k a0 a1 a2 a3 a4 a5 a6 a7 a8 a9 a10 a11 a12 a13) (asset_App.f (k + 1) a0 a1 a2 a3 a4 a5 a6 a7 a8 a9 a10 a11 a12 a13) := by
  intro a0 a1 a2 a3 a4 a5 a6 a7 a8 a9 a10 a11 a12 a13 k
  have ih0 := asset_App.mono_l k
  unfold asset_App.f
  repeat' first
      | (with_reducible exact ih0 _ _ _ _ _)
      | (with_reducible exact LeO.refl _)
      | (with_reducible exact LeO.none _)
      | (with_reducible refine LeO.ite ?_ ?_)
      | (with_reducible refine LeO.bind ?_ (fun _ => ?_))
theorem asset_App.calls (k : Nat) (a0_0 : ByteArray) (a0_1 : Bool) (a0_2 : Int) (a0_3 : Int) (a0_4 : Int) (a0_5 : Int) (a0_6 : Int) (a0_7 : Int) (a0_8 : Int) (a0_9 : Bool) (a0_10 : Int) (A0_11 : Option Addr) (c0_11 : Nat) (l0_11 : List (S74)) (a1 : Int) (a2 : Int) (r : Int) (w : World) (hr0_11 : Kd.C k74 w A0_11 l0_11.length l0_11) (hc0_11 : l0_11.length ≤ c0_11) (h : asset_App.f k a0_0 a0_1 a0_2 a0_3 a0_4 a0_5 a0_6 a0_7 a0_8 a0_9 a0_10 l0_11 a1 a2 = some r) :
 Calls Tryz.prog 19 #[.agg #[.string a0_0, .bool a0_1, .int .u64 a0_2, .int .u64 a0_3, .int .i64 a0_4, .int .i64 a0_5, .int .i64 a0_6, .int .i64 a0_7, .int .i64 a0_8, .bool a0_9, .int .i64 a0_10, .slice A0_11 l0_11.length c0_11], .int .i64 a1, .int .i64 a2] w fun e w' => e = .returned (.int .i64 r) ∧ Below w.heap.size w w' := by
 have hu36 := Tryz.underlying36
 have hu74 := Tryz.underlying74
 have HR0_11 := Aside0.mk hr0_11; have HC0_11 := Aside0.mk hc0_11; clear hr0_11 hc0_11; have HB := Aside0.mk (Below.refl w.heap.size w)
 unfold asset_App.f at h; have H := h
 clear h
 have H' := Aside0.mk H
 clear H
 go_enter Tryz.func19, Tryz.ntmps19
 go_wp2_with (first | ((with_reducible refine gate_dst (N := 3) rfl ?_); refine zx 3 #[.string a0_0, .bool a0_1, .int .u64 a0_2, .int .u64 a0_3, .int .i64 a0_4, .int .i64 a0_5, .int .i64 a0_6, .int .i64 a0_7, .int .i64 a0_8, .bool a0_9, .int .i64 a0_10, .slice A0_11 l0_11.length c0_11] 36 ?_; intro gb147 hg w4 hbox hb; have BK147 := Aside0.mk (hbox); have GW147 := zG HB hg; have GE147 := zG HB hg; replace HB := Aside0.mk (below_step (zB HB) hb); clear hb hbox hg; obtain ⟨hcz5_0, hcz5_1, hcz5_2, hcz5_3, hcz5_4, hcz5_5, hcz5_6, hcz5_7, hcz5_8, hcz5_9, hcz5_10, hcz5_11⟩ := zc12 BK147; obtain ⟨hfz5_0, hfz5_1, hfz5_2, hfz5_3, hfz5_4, hfz5_5, hfz5_6, hfz5_7, hfz5_8, hfz5_9, hfz5_10, hfz5_11⟩ := zf12 BK147))
 go_loopg [12] k (fun kq v12 w' => ∃ (x12_1 : Int), v12 = .int .i64 x12_1 ∧ Aside0 (asset_App.l0 kq a1 a2 l0_11 (l0_11.length : Int) x12_1 = some r) ∧ Aside0 (kq ≤ k) ∧ Aside0 (w'.heap[gb147]? = some (.cells #[.string a0_0, .bool a0_1, .int .u64 a0_2, .int .u64 a0_3, .int .i64 a0_4, .int .i64 a0_5, .int .i64 a0_6, .int .i64 a0_7, .int .i64 a0_8, .bool a0_9, .int .i64 a0_10, (.slice A0_11 l0_11.length c0_11)] 36 (0, 0))) ∧ Aside0 (Below w.heap.size w w'))
 case atStart => exact ⟨(0), zI, H', ⟨Nat.le_refl _⟩, ⟨zK BK147⟩, ⟨zB HB⟩⟩
 case round =>
  clear H'
  (try clear hcz5_0 hcz5_1 hcz5_10 hcz5_11 hcz5_2 hcz5_3 hcz5_4 hcz5_5 hcz5_6 hcz5_7 hcz5_8 hcz5_9); (try clear hfz5_0 hfz5_1 hfz5_10 hfz5_11 hfz5_2 hfz5_3 hfz5_4 hfz5_5 hfz5_6 hfz5_7 hfz5_8 hfz5_9)
  obtain ⟨x12_1, rfl, HA, HK1, BK147, HB⟩ := hrel
  rcases gk with _ | k1
  · exact absurd HA.out (by simp [asset_App.l0])
  have H := HA.out
  clear HA
  simp only [asset_App.l0] at H
  by_cases c6 : x12_1 < (l0_11.length : Int)
  rotate_left
  · rw [if_neg c6] at H
    have c6b0 : decide (x12_1 < (l0_11.length : Int)) = false := decide_eq_false c6; clear c6
    obtain rfl := Option.some.inj H
    go_wp2
    go_ret
    exact ⟨zr, zB HB⟩
  rw [if_pos c6] at H
  have c6b0 : decide (x12_1 < (l0_11.length : Int)) = true := decide_eq_true c6; clear c6
  by_cases c7 : 0 ≤ x12_1
  rotate_left
  · rw [if_neg c7] at H
    exact absurd H (by simp)
  rw [if_pos c7] at H
  have c7b0 : decide (0 ≤ x12_1) = true := decide_eq_true c7; clear c7
  by_cases c8 : x12_1 < (l0_11.length : Int)
  rotate_left
  · rw [if_neg c8] at H
    exact absurd H (by simp)
  rw [if_pos c8] at H
  have c8b0 : decide (x12_1 < (l0_11.length : Int)) = true := decide_eq_true c8; clear c8
  by_cases c9 : ((rd_T74 l0_11 x12_1).f0) = a1
  · rw [if_pos c9] at H
    have c9b0 : (((rd_T74 l0_11 x12_1).f0) == a1) = true := beq_iff_eq.mpr c9; have c9b1 : (((rd_T74 l0_11 x12_1).f0) != a1) = false := bne_eq_false_iff_eq.mpr c9; clear c9
    by_cases c10 : ((rd_T74 l0_11 x12_1).f1) = a2
    · rw [if_pos c10] at H
      have c10b0 : (((rd_T74 l0_11 x12_1).f1) == a2) = true := beq_iff_eq.mpr c10; have c10b1 : (((rd_T74 l0_11 x12_1).f1) != a2) = false := bne_eq_false_iff_eq.mpr c10; clear c10
      obtain rfl := Option.some.inj H
      have p148 : 0 ≤ (x12_1 : Int) := za
      have q148 : x12_1 < (l0_11.length : Int) := za
      obtain ⟨ad148, e148, hx148_0, hx148_1, hx148_2⟩ := at_T74 HR0_11.out x12_1 p148 q148
      cases e148
      replace hx148_0 := zh HB hx148_0; replace hx148_1 := zh HB hx148_1; replace hx148_2 := zh HB hx148_2
      replace p148 := eq_true p148
      replace q148 := eq_true q148
      go_wp2_with (first | ((with_reducible refine gate_dst (N := 8) rfl ?_); refine zx 8 #[.int .i64 0, .int .i64 0, .int .i64 0] 74 ?_; intro gb149 hg w11 hbox hb; have BK149 := Aside0.mk (hbox); have GW149 := zG HB hg; have GE149 := zG HB hg; replace HB := Aside0.mk (below_step (zB HB) hb); have NB147_149 := Aside0.mk ((by rw [hg]; exact Nat.ne_of_lt (blk_lt (g := gb147) (o := .cells #[.string a0_0, .bool a0_1, .int .u64 a0_2, .int .u64 a0_3, .int .i64 a0_4, .int .i64 a0_5, .int .i64 a0_6, .int .i64 a0_7, .int .i64 a0_8, .bool a0_9, .int .i64 a0_10, .slice (some ad148) l0_11.length c0_11] 36 (0, 0)) (zK BK147)) : gb147 ≠ gb149)); have NB149_147 := Aside0.mk ((by rw [hg]; exact Nat.ne_of_gt (blk_lt (g := gb147) (o := .cells #[.string a0_0, .bool a0_1, .int .u64 a0_2, .int .u64 a0_3, .int .i64 a0_4, .int .i64 a0_5, .int .i64 a0_6, .int .i64 a0_7, .int .i64 a0_8, .bool a0_9, .int .i64 a0_10, .slice (some ad148) l0_11.length c0_11] 36 (0, 0)) (zK BK147)) : gb149 ≠ gb147)); replace BK147 := zkb BK147 hb; clear hb hbox hg; have hnb12 := NB149_147.out; have hnc12 := NB147_149.out; obtain ⟨hcz13_0, hcz13_1, hcz13_2⟩ := zc3 BK149; obtain ⟨hfz13_0, hfz13_1, hfz13_2⟩ := zf3 BK149))
      go_ret
      exact ⟨zr, zB HB⟩
    rw [if_neg c10] at H
    have c10b0 : (((rd_T74 l0_11 x12_1).f1) == a2) = false := beq_eq_false_iff_ne.mpr c10
    have c10b1 : (((rd_T74 l0_11 x12_1).f1) != a2) = true := bne_iff_ne.mpr c10
    have H' := Aside0.mk H
    clear H
    have p148 : 0 ≤ (x12_1 : Int) := za
    have q148 : x12_1 < (l0_11.length : Int) := za
    obtain ⟨ad148, e148, hx148_0, hx148_1, hx148_2⟩ := at_T74 HR0_11.out x12_1 p148 q148
    cases e148
    replace hx148_0 := zh HB hx148_0; replace hx148_1 := zh HB hx148_1; replace hx148_2 := zh HB hx148_2
    replace p148 := eq_true p148
    replace q148 := eq_true q148
    go_wp2_with (first | ((with_reducible refine gate_dst (N := 8) rfl ?_); refine zx 8 #[.int .i64 0, .int .i64 0, .int .i64 0] 74 ?_; intro gb149 hg w14 hbox hb; have BK149 := Aside0.mk (hbox); have GW149 := zG HB hg; have GE149 := zG HB hg; replace HB := Aside0.mk (below_step (zB HB) hb); have NB147_149 := Aside0.mk ((by rw [hg]; exact Nat.ne_of_lt (blk_lt (g := gb147) (o := .cells #[.string a0_0, .bool a0_1, .int .u64 a0_2, .int .u64 a0_3, .int .i64 a0_4, .int .i64 a0_5, .int .i64 a0_6, .int .i64 a0_7, .int .i64 a0_8, .bool a0_9, .int .i64 a0_10, .slice (some ad148) l0_11.length c0_11] 36 (0, 0)) (zK BK147)) : gb147 ≠ gb149)); have NB149_147 := Aside0.mk ((by rw [hg]; exact Nat.ne_of_gt (blk_lt (g := gb147) (o := .cells #[.string a0_0, .bool a0_1, .int .u64 a0_2, .int .u64 a0_3, .int .i64 a0_4, .int .i64 a0_5, .int .i64 a0_6, .int .i64 a0_7, .int .i64 a0_8, .bool a0_9, .int .i64 a0_10, .slice (some ad148) l0_11.length c0_11] 36 (0, 0)) (zK BK147)) : gb149 ≠ gb147)); replace BK147 := zkb BK147 hb; clear hb hbox hg; have hnb15 := NB149_147.out; have hnc15 := NB147_149.out; obtain ⟨hcz16_0, hcz16_1, hcz16_2⟩ := zc3 BK149; obtain ⟨hfz16_0, hfz16_1, hfz16_2⟩ := zf3 BK149))
    go_roundg k1
    case measure => have := HK1.out; omega
    case rel => exact ⟨(wrap64 (x12_1 + 1)), zI, H', ⟨by have := HK1.out; omega⟩, ⟨by refine zL ?_; refine blk_far ?_ NB147_149.out _; refine zL ?_; refine blk_far ?_ NB147_149.out _; refine zL ?_; refine blk_far ?_ NB147_149.out _; refine zL ?_; exact BK147.out⟩, ⟨zB HB⟩⟩
  rw [if_neg c9] at H
  have c9b0 : (((rd_T74 l0_11 x12_1).f0) == a1) = false := beq_eq_false_iff_ne.mpr c9
  have c9b1 : (((rd_T74 l0_11 x12_1).f0) != a1) = true := bne_iff_ne.mpr c9
  have H' := Aside0.mk H
  clear H
  have p148 : 0 ≤ (x12_1 : Int) := za
  have q148 : x12_1 < (l0_11.length : Int) := za
  obtain ⟨ad148, e148, hx148_0, hx148_1, hx148_2⟩ := at_T74 HR0_11.out x12_1 p148 q148
  cases e148
  replace hx148_0 := zh HB hx148_0; replace hx148_1 := zh HB hx148_1; replace hx148_2 := zh HB hx148_2
  replace p148 := eq_true p148
  replace q148 := eq_true q148
  go_wp2_with (first | ((with_reducible refine gate_dst (N := 8) rfl ?_); refine zx 8 #[.int .i64 0, .int .i64 0, .int .i64 0] 74 ?_; intro gb149 hg w17 hbox hb; have BK149 := Aside0.mk (hbox); have GW149 := zG HB hg; have GE149 := zG HB hg; replace HB := Aside0.mk (below_step (zB HB) hb); have NB147_149 := Aside0.mk ((by rw [hg]; exact Nat.ne_of_lt (blk_lt (g := gb147) (o := .cells #[.string a0_0, .bool a0_1, .int .u64 a0_2, .int .u64 a0_3, .int .i64 a0_4, .int .i64 a0_5, .int .i64 a0_6, .int .i64 a0_7, .int .i64 a0_8, .bool a0_9, .int .i64 a0_10, .slice (some ad148) l0_11.length c0_11] 36 (0, 0)) (zK BK147)) : gb147 ≠ gb149)); have NB149_147 := Aside0.mk ((by rw [hg]; exact Nat.ne_of_gt (blk_lt (g := gb147) (o := .cells #[.string a0_0, .bool a0_1, .int .u64 a0_2, .int .u64 a0_3, .int .i64 a0_4, .int .i64 a0_5, .int .i64 a0_6, .int .i64 a0_7, .int .i64 a0_8, .bool a0_9, .int .i64 a0_10, .slice (some ad148) l0_11.length c0_11] 36 (0, 0)) (zK BK147)) : gb149 ≠ gb147)); replace BK147 := zkb BK147 hb; clear hb hbox hg; have hnb18 := NB149_147.out; have hnc18 := NB147_149.out; obtain ⟨hcz19_0, hcz19_1, hcz19_2⟩ := zc3 BK149; obtain ⟨hfz19_0, hfz19_1, hfz19_2⟩ := zf3 BK149))
  go_roundg k1
  case measure => have := HK1.out; omega
  case rel => exact ⟨(wrap64 (x12_1 + 1)), zI, H', ⟨by have := HK1.out; omega⟩, ⟨by refine zL ?_; refine blk_far ?_ NB147_149.out _; refine zL ?_; refine blk_far ?_ NB147_149.out _; refine zL ?_; refine blk_far ?_ NB147_149.out _; refine zL ?_; exact BK147.out⟩, ⟨zB HB⟩⟩
end Go.Proofs.YtnphnhkinjppjaaGreatDoor.Q
end

section
set_option maxHeartbeats 8000000
set_option maxRecDepth 100000
namespace Go.Proofs.YtnphnhkinjppjaaGreatDoor.Q
open Go.RowKit Go.Proofs.YtnphnhkinjppjaaGreatDoorW.PrintWords Go.Proofs.YtnphnhkinjppjaaGreatDoorW.PrintLast Go.Proofs.YtnphnhkinjppjaaGreatDoorW.PrintMore
def lvA : S36 := ⟨⟨#[97]⟩, ⟨⟨false, 0, 167772160⟩, 8⟩, 1, 1, 0, 8192, false, 2, []⟩
def lvB : S36 := ⟨⟨#[98]⟩, ⟨⟨false, 0, 167772160⟩, 24⟩, 1, 1, 0, 8192, false, 1, [⟨6, 80, 1⟩]⟩
def lvL : List S36 := [lvA, lvB]
def lvT1 : ByteArray := (⟨#[104, 111, 115, 116, 32, 97, 32, 49, 48, 46, 48, 46, 48, 46, 48, 47, 56, 32, 118, 97, 108, 117, 101, 32, 50, 59, 32, 35, 32, 116, 101, 110, 10, 104, 111, 115, 116, 32, 98, 32, 49, 48, 46, 48, 46, 48, 46, 48, 47, 50, 52, 32, 115, 101, 114, 118, 105, 99, 101, 32, 116, 99, 112, 32, 56, 48, 32, 104, 116, 116, 112, 59]⟩ : ByteArray)
def lvT2 : ByteArray := (⟨#[104, 111, 115, 116, 32, 97, 32, 49, 48, 46, 48, 46, 48, 46, 48, 47, 56, 32, 115, 112, 101, 101, 100, 32, 51, 59]⟩ : ByteArray)
def lvT3 : ByteArray := (⟨#[104, 111, 115, 116, 32, 97, 32, 49, 48, 46, 48, 46, 48, 46, 48, 47, 56, 32, 118, 97, 108, 117, 101, 32, 50, 59, 10]⟩ : ByteArray)
theorem lives18.e1 : asset_Parse.f 200 lvT1 = some (lvL, 0, 0) := by kernel_rfl
theorem lives18.e2 : asset_Parse.f 200 lvT2 = some ([], 15, 18) := by kernel_rfl
theorem lives18.e3 : asset_Check.f 200 lvL = some 0 := by kernel_rfl
theorem lives18.e4 : asset_App.f 200 lvB.f0 lvB.f1.f0.f0 lvB.f1.f0.f1 lvB.f1.f0.f2 lvB.f1.f1 lvB.f2 lvB.f3 lvB.f4 lvB.f5 lvB.f6 lvB.f7 lvB.f8 6 80 = some 1 := by kernel_rfl
theorem lives18.e5 : asset_Find.f lvL false 0 167772161 = some lvB := by kernel_rfl
theorem lives18.e6 : asset_Find.f lvL false 0 167837696 = some lvA := by kernel_rfl
theorem lives18.e7 : asset_Find.f lvL false 0 0 = some aDef := by kernel_rfl
theorem lives18.e8 : asset_Format.f 200 [lvA] = some lvT3 := by kernel_rfl
theorem lives18.e9 : asset_Check.f 200 [lvA, lvA] = some 7 := by kernel_rfl
theorem one_C {w : World} {A : Option Addr} {a b : S36} (h : Kd.C k36 w A 2 [a, b]) : Kd.C k36 w A 1 [a] := by
  obtain ⟨ad, e, hc⟩ := h.2.2 (by decide)
  refine ⟨rfl, by decide, fun _ => ⟨ad, e, fun j p hj => ?_⟩⟩
  match j, hj with
  | 0, hj => exact hc 0 p hj
  | j + 1, hj => simp at hj
theorem two_C {w : World} {A : Option Addr} {c base : Nat} {a : S36} {c0 : List Value} (ho : w.ownsRow base 36 12 (.slice A 2 c) 2 (c0 ++ c0)) (hl : c0.length = 12) (hK : (k36).K w a c0) : Kd.C k36 w A 2 [a, a] := by
  obtain ⟨ad, e, hc⟩ := q_cells (q_of_own ho) (by decide)
  refine ⟨rfl, by decide, fun _ => ⟨ad, e, fun j p hj => ?_⟩⟩
  match j, hj with
  | 0, hj =>
    cases Option.some.inj hj
    refine ⟨c0, hl, hK, fun i u hu => hc _ u ?_⟩
    rw [Nat.zero_mul, Nat.zero_add, List.getElem?_append_left (List.getElem?_eq_some_iff.mp hu).1]
    exact hu
  | 1, hj =>
    cases Option.some.inj hj
    refine ⟨c0, hl, hK, fun i u hu => hc _ u ?_⟩
    have e2 : 1 * (k36).sz + i = c0.length + i := by rw [hl, Nat.one_mul]; rfl
    rw [e2, List.getElem?_append_right (by omega), Nat.add_sub_cancel_left]
    exact hu
  | j + 2, hj => simp at hj
abbrev lvS (g : Nat) (Aa : Option Addr) (ca : Nat) (Ab : Option Addr) (cb : Nat) (w : World) : Prop := w.cell? ⟨g, 0, none⟩ = some (.string ⟨#[97]⟩) ∧ w.cell? ⟨g, 1, none⟩ = some (.bool false) ∧ w.cell? ⟨g, 2, none⟩ = some (.int .u64 0) ∧ w.cell? ⟨g, 3, none⟩ = some (.int .u64 167772160) ∧ w.cell? ⟨g, 4, none⟩ = some (.int .i64 8) ∧ w.cell? ⟨g, 5, none⟩ = some (.int .i64 1) ∧ w.cell? ⟨g, 6, none⟩ = some (.int .i64 1) ∧ w.cell? ⟨g, 7, none⟩ = some (.int .i64 0) ∧ w.cell? ⟨g, 8, none⟩ = some (.int .i64 8192) ∧ w.cell? ⟨g, 9, none⟩ = some (.bool false) ∧ w.cell? ⟨g, 10, none⟩ = some (.int .i64 2) ∧ w.cell? ⟨g, 11, none⟩ = some (.slice Aa 0 ca) ∧ w.cell? ⟨g, 12, none⟩ = some (.string ⟨#[98]⟩) ∧ w.cell? ⟨g, 13, none⟩ = some (.bool false) ∧ w.cell? ⟨g, 14, none⟩ = some (.int .u64 0) ∧ w.cell? ⟨g, 15, none⟩ = some (.int .u64 167772160) ∧ w.cell? ⟨g, 16, none⟩ = some (.int .i64 24) ∧ w.cell? ⟨g, 17, none⟩ = some (.int .i64 1) ∧ w.cell? ⟨g, 18, none⟩ = some (.int .i64 1) ∧ w.cell? ⟨g, 19, none⟩ = some (.int .i64 0) ∧ w.cell? ⟨g, 20, none⟩ = some (.int .i64 8192) ∧ w.cell? ⟨g, 21, none⟩ = some (.bool false) ∧ w.cell? ⟨g, 22, none⟩ = some (.int .i64 1) ∧ w.cell? ⟨g, 23, none⟩ = some (.slice Ab 1 cb)
theorem lvS.below {g : Nat} {Aa : Option Addr} {ca : Nat} {Ab : Option Addr} {cb : Nat} {w w1 : World} (h : lvS g Aa ca Ab cb w) (hb : Below w.heap.size w w1) : lvS g Aa ca Ab cb w1 := by
  obtain ⟨h0, h1, h2, h3, h4, h5, h6, h7, h8, h9, h10, h11, h12, h13, h14, h15, h16, h17, h18, h19, h20, h21, h22, h23⟩ := h
  exact ⟨pw_cell_below hb h0, pw_cell_below hb h1, pw_cell_below hb h2, pw_cell_below hb h3, pw_cell_below hb h4, pw_cell_below hb h5, pw_cell_below hb h6, pw_cell_below hb h7, pw_cell_below hb h8, pw_cell_below hb h9, pw_cell_below hb h10, pw_cell_below hb h11, pw_cell_below hb h12, pw_cell_below hb h13, pw_cell_below hb h14, pw_cell_below hb h15, pw_cell_below hb h16, pw_cell_below hb h17, pw_cell_below hb h18, pw_cell_below hb h19, pw_cell_below hb h20, pw_cell_below hb h21, pw_cell_below hb h22, pw_cell_below hb h23⟩
theorem lvS.of {w : World} {g : Nat} (h : Kd.C k36 w (some ⟨g, 0, none⟩) 2 lvL) : ∃ Aa ca Ab cb, lvS g Aa ca Ab cb w ∧ 1 ≤ cb ∧ Kd.C k74 w Aa 0 [] ∧ Kd.C k74 w Ab 1 lvB.f8 := by
  obtain ⟨ad, Aa, ca, he, a0, a1, a2, a3, a4, a5, a6, a7, a8, a9, a10, a11, al, ac⟩ := at_T36 h 0 (by decide) (by decide)
  cases Option.some.inj he
  obtain ⟨ad', Ab, cb, he, b0, b1, b2, b3, b4, b5, b6, b7, b8, b9, b10, b11, bl, bc⟩ := at_T36 h 1 (by decide) (by decide)
  cases Option.some.inj he
  exact ⟨Aa, ca, Ab, cb, ⟨a0, a1, a2, a3, a4, a5, a6, a7, a8, a9, a10, a11, b0, b1, b2, b3, b4, b5, b6, b7, b8, b9, b10, b11⟩, bl, ac, bc⟩
theorem fld_name (s : ByteArray) (x1 : Bool) (x2 x3 x4 x5 x6 x7 x8 : Int) (x9 : Bool) (x10 : Int) (v : Value) (w : World) : (Instr.field 36 (.agg #[.string s, .bool x1, .int .u64 x2, .int .u64 x3, .int .i64 x4, .int .i64 x5, .int .i64 x6, .int .i64 x7, .int .i64 x8, .bool x9, .int .i64 x10, v]) 0).run Tryz.prog w = .ok (.string s) w := by kernel_rfl
def w18_lives.f (k : Nat) : Option Bool := some true
theorem w18_lives.mono : ∀ k, LeO (w18_lives.f k) (w18_lives.f (k + 1)) := fun k => LeO.refl _
theorem w18_lives.calls (k : Nat) (r : Bool) (w : World) (h : w18_lives.f k = some r) (hW : WOK w) :
    Calls Tryz.prog 11 #[] w fun e w' => e = .returned (.bool r) ∧ Below w.heap.size w w' := by
  injection h with h
  subst h
  have hu := Tryz.underlying36
  have hu2 := Tryz.underlying22
  have hu3 := Tryz.underlying31
  have HW := Aside0.mk hW
  clear hW
  go_enter Tryz.func11, Tryz.ntmps11
  go_wp2_with fail
  refine (asset_Parse.calls 200 lvT1 _ _ _ w lives18.e1 HW.out).mono ?_
  rintro e w1 ⟨v, rfl, ho, hb⟩
  obtain ⟨g1, c1, hv, _⟩ := Kd.R_form ho (by decide)
  rw [show lvL.length = 2 from rfl] at hv
  subst hv
  have HC : Aside0 (Kd.C k36 w1 (some ⟨g1, 0, none⟩) 2 lvL) := ⟨(Kd.R_reads' ho).2.2⟩
  have HCAP : Aside0 (2 ≤ c1) := ⟨(Kd.R_reads' ho).2.1⟩
  have HB := Aside0.mk hb
  clear ho hb
  go_wp2_with fail
  refine (asset_Parse.calls 200 lvT2 _ _ _ w1 lives18.e2 (HW.out.below HB.out)).mono ?_
  rintro e w2 ⟨v, rfl, ho, hb⟩
  have HB1 : Aside0 (Below w1.heap.size w1 w2) := ⟨hb⟩
  clear ho hb
  go_wp2_with fail
  refine (new_ok 200 (some ⟨g1, 0, none⟩) c1 lvL w2 (Kd.C_below HC.out HB1.out) HCAP.out lives18.e3 (by decide) (by decide)).mono ?_
  rintro e w3 ⟨wn, p, v3, rfl, hbn, hT⟩
  have HB3 : Aside0 (Below w2.heap.size w2 w3) := ⟨below_then hbn hbn.size hT.bel⟩
  have HT := Aside0.mk hT
  have HBA := Aside0.mk (below_then HB.out HB.out.size (below_then HB1.out HB1.out.size HB3.out))
  replace HC := Aside0.mk (Kd.C_below HC.out (below_then HB1.out HB1.out.size HB3.out))
  replace HB := HBA
  clear HB1 HB3 HBA hbn hT
  obtain ⟨Aa, ca, Ab, cb, hS, hcb, ac, bc⟩ := lvS.of HC.out
  have HS := Aside0.mk hS
  have HAC := Aside0.mk ac
  have HBC := Aside0.mk bc
  clear hS ac bc
  have hfl := fld_name
  have hcap : 2 ≤ c1 := HCAP.out
  have hcapI : ((1 : Int) ≤ (c1 : Int)) = True := eq_true (by omega)
  go_upto_region 6 with (fail)
  refine start_ (n := 58) (S := fun w' => lvS g1 Aa ca Ab cb w') (ds := []) #[false, false, false, false, false, false, false, false, false, false, false, false, false, false, false, false, false, false, false, false, false, false, false, false, false, false, false, false, false, false, false, false, false, false, false, false, false, false, false, false, false, false, false, false, false, false, false, false, false, false, false, false, false, false, false, false, false, false] (by kernel_rfl) rfl rfl (lvS.below HS.out (below_drew (Below.refl _ _))) (fun hHeld => ?_)
  replace HC := Aside0.mk (Kd.C_drew HC.out)
  replace HAC := Aside0.mk (Kd.C_drew HAC.out)
  replace HBC := Aside0.mk (Kd.C_drew HBC.out)
  replace HB := Aside0.mk (below_drew HB.out)
  replace HT := Aside0.mk (HT.out.below (below_drew (Below.refl _ _)))
  clear HS
  generalize w3.drew = W3 at HC HAC HBC HB HT hHeld ⊢
  refine zp0 0 51 ?_
  refine zp0 1 52 ?_
  refine zp0 2 53 ?_
  refine zt0 3 54 hHeld ?_
  refine zp0 4 55 ?_
  refine zp0 5 56 ?_
  refine zp0 6 57 ?_
  refine zp0 7 58 ?_
  refine zp0 8 59 ?_
  refine zt0 9 60 hHeld ?_
  refine zp0 10 61 ?_
  refine zp0 11 62 ?_
  refine zp0 12 63 ?_
  refine zp0 13 64 ?_
  refine zp0 14 65 ?_
  refine zt0 15 66 hHeld ?_
  refine zo0 16 67 (fun K hK => ?_)
  refine zg Tryz.func19 #[.agg #[.string ⟨#[98]⟩, .bool false, .int .u64 0, .int .u64 167772160, .int .i64 24, .int .i64 1, .int .i64 1, .int .i64 0, .int .i64 8192, .bool false, .int .i64 1, .slice Ab 1 cb], .int .i64 6, .int .i64 80] ?_
  refine (asset_App.calls 200 lvB.f0 lvB.f1.f0.f0 lvB.f1.f0.f1 lvB.f1.f0.f2 lvB.f1.f1 lvB.f2 lvB.f3 lvB.f4 lvB.f5 lvB.f6 lvB.f7 Ab cb lvB.f8 6 80 1 W3 HBC.out hcb lives18.e4).mono ?_
  rintro e W4 ⟨rfl, hb⟩
  refine ⟨.int .i64 1, rfl, ?_⟩
  replace HC := Aside0.mk (Kd.C_below HC.out hb)
  replace HAC := Aside0.mk (Kd.C_below HAC.out hb)
  replace HBC := Aside0.mk (Kd.C_below HBC.out hb)
  replace HB := Aside0.mk (below_then HB.out HB.out.size hb)
  replace HT := Aside0.mk (HT.out.below hb)
  refine hK.out _ _ (lvS.below hHeld hb) (fun hHeld => ?_)
  clear hK K hb
  refine zn 67 ?_
  refine zp0 17 68 ?_
  refine zp0 18 69 ?_
  refine zp0 19 70 ?_
  refine zp0 20 71 ?_
  refine zp0 21 72 ?_
  refine zo0 22 73 (fun K hK => ?_)
  refine zg Tryz.func27 #[.pointer (some ⟨p, 0, none⟩), .agg #[.bool false, .int .u64 0, .int .u64 167772161]] ?_
  refine (find_ok wn W4 p lvL v3 false 0 167772161 lvB HT.out (by decide) (by decide) lives18.e5).mono ?_
  rintro e W5 ⟨v122, rfl, _, hb⟩
  refine ⟨.agg #[.string ⟨#[98]⟩, .bool false, .int .u64 0, .int .u64 167772160, .int .i64 24, .int .i64 1, .int .i64 1, .int .i64 0, .int .i64 8192, .bool false, .int .i64 1, v122], rfl, ?_⟩
  replace HC := Aside0.mk (Kd.C_below HC.out hb)
  replace HAC := Aside0.mk (Kd.C_below HAC.out hb)
  replace HBC := Aside0.mk (Kd.C_below HBC.out hb)
  replace HB := Aside0.mk (below_then HB.out HB.out.size hb)
  replace HT := Aside0.mk (HT.out.below hb)
  refine hK.out _ _ (lvS.below hHeld hb) (fun hHeld => ?_)
  clear hK K hb
  refine zn 73 ?_
  refine zp0 23 74 ?_
  refine zp0 24 75 ?_
  refine zp0 25 76 ?_
  refine zp0 26 77 ?_
  refine zp0 27 78 ?_
  refine zp0 28 79 ?_
  refine zo0 29 80 (fun K hK => ?_)
  refine zg Tryz.func27 #[.pointer (some ⟨p, 0, none⟩), .agg #[.bool false, .int .u64 0, .int .u64 167837696]] ?_
  refine (find_ok wn W5 p lvL v3 false 0 167837696 lvA HT.out (by decide) (by decide) lives18.e6).mono ?_
  rintro e W6 ⟨v129, rfl, _, hb⟩
  refine ⟨.agg #[.string ⟨#[97]⟩, .bool false, .int .u64 0, .int .u64 167772160, .int .i64 8, .int .i64 1, .int .i64 1, .int .i64 0, .int .i64 8192, .bool false, .int .i64 2, v129], rfl, ?_⟩
  replace HC := Aside0.mk (Kd.C_below HC.out hb)
  replace HAC := Aside0.mk (Kd.C_below HAC.out hb)
  replace HBC := Aside0.mk (Kd.C_below HBC.out hb)
  replace HB := Aside0.mk (below_then HB.out HB.out.size hb)
  replace HT := Aside0.mk (HT.out.below hb)
  refine hK.out _ _ (lvS.below hHeld hb) (fun hHeld => ?_)
  clear hK K hb
  refine zn 80 ?_
  refine zp0 30 81 ?_
  refine zp0 31 82 ?_
  refine zp0 32 83 ?_
  refine zp0 33 84 ?_
  refine zp0 34 85 ?_
  refine zp0 35 86 ?_
  refine zo0 36 87 (fun K hK => ?_)
  refine zg Tryz.func27 #[.pointer (some ⟨p, 0, none⟩), .agg #[.bool false, .int .u64 0, .int .u64 0]] ?_
  refine (find_ok wn W6 p lvL v3 false 0 0 aDef HT.out (by decide) (by decide) lives18.e7).mono ?_
  rintro e W7 ⟨v136, rfl, _, hb⟩
  refine ⟨.agg #[.string ⟨#[100, 101, 102, 97, 117, 108, 116]⟩, .bool false, .int .u64 0, .int .u64 0, .int .i64 0, .int .i64 1, .int .i64 1, .int .i64 0, .int .i64 8192, .bool false, .int .i64 1, v136], rfl, ?_⟩
  replace HC := Aside0.mk (Kd.C_below HC.out hb)
  replace HAC := Aside0.mk (Kd.C_below HAC.out hb)
  replace HBC := Aside0.mk (Kd.C_below HBC.out hb)
  replace HB := Aside0.mk (below_then HB.out HB.out.size hb)
  replace HT := Aside0.mk (HT.out.below hb)
  refine hK.out _ _ (lvS.below hHeld hb) (fun hHeld => ?_)
  clear hK K hb
  refine zn 87 ?_
  refine zp0 37 88 ?_
  refine zp0 38 89 ?_
  refine zp0 39 90 ?_
  refine zp0 40 91 ?_
  refine zp0 41 92 ?_
  refine zp0 42 93 ?_
  refine zo0 43 94 (fun K hK => ?_)
  refine zg Tryz.func14 #[.slice (some ⟨g1, 0, none⟩) 1 c1] ?_
  refine (asset_Format.calls 200 (some ⟨g1, 0, none⟩) c1 [lvA] lvT3 W7 (one_C HC.out) (Nat.le_of_succ_le hcap) lives18.e8 (HW.out.below HB.out)).mono ?_
  rintro e W8 ⟨rfl, hb⟩
  refine ⟨.string ⟨#[104, 111, 115, 116, 32, 97, 32, 49, 48, 46, 48, 46, 48, 46, 48, 47, 56, 32, 118, 97, 108, 117, 101, 32, 50, 59, 10]⟩, rfl, ?_⟩
  replace HC := Aside0.mk (Kd.C_below HC.out hb)
  replace HAC := Aside0.mk (Kd.C_below HAC.out hb)
  replace HBC := Aside0.mk (Kd.C_below HBC.out hb)
  replace HB := Aside0.mk (below_then HB.out HB.out.size hb)
  replace HT := Aside0.mk (HT.out.below hb)
  refine hK.out _ _ (lvS.below hHeld hb) (fun hHeld => ?_)
  clear hK K hb
  refine zn 94 ?_
  refine zp0 44 95 ?_
  refine zp0 45 96 ?_
  refine zp0 46 97 ?_
  refine zp0 47 98 ?_
  refine zp0 48 99 ?_
  refine zp0 49 100 ?_
  refine zp0 50 101 ?_
  refine zt0 51 102 hHeld ?_
  refine zo0 52 103 (fun K hK => ?_)
  refine value_ (w1 := ?_) (v := ?_) (by rfl) rfl ?_ ?_
  rotate_left 2
  · go_simp
    constructor
    · rfl
    · rfl
  have hb := below_alloc (Below.refl _ W8) (.cells #[.string ⟨#[97]⟩, .bool false, .int .u64 0, .int .u64 167772160, .int .i64 8, .int .i64 1, .int .i64 1, .int .i64 0, .int .i64 8192, .bool false, .int .i64 2, .slice Aa 0 ca] 36)
  refine hK.out _ _ (lvS.below hHeld hb) (fun hHeld => ?_)
  clear hK K
  refine zn 103 ?_
  have HN : Aside0 ((W8.alloc (.cells #[.string ⟨#[97]⟩, .bool false, .int .u64 0, .int .u64 167772160, .int .i64 8, .int .i64 1, .int .i64 1, .int .i64 0, .int .i64 8192, .bool false, .int .i64 2, .slice Aa 0 ca] 36)).heap[W8.heap.size]? = some (.cells #[.string ⟨#[97]⟩, .bool false, .int .u64 0, .int .u64 167772160, .int .i64 8, .int .i64 1, .int .i64 1, .int .i64 0, .int .i64 8192, .bool false, .int .i64 2, .slice Aa 0 ca] 36 (0, 0))) := ⟨heap_alloc_new _ _⟩
  replace HC := Aside0.mk (Kd.C_below HC.out hb)
  replace HAC := Aside0.mk (Kd.C_below HAC.out hb)
  replace HB := Aside0.mk (below_then HB.out HB.out.size hb)
  clear hb HT HBC
  generalize W8.heap.size = gn at HN ⊢
  generalize W8.alloc (.cells #[.string ⟨#[97]⟩, .bool false, .int .u64 0, .int .u64 167772160, .int .i64 8, .int .i64 1, .int .i64 1, .int .i64 0, .int .i64 8192, .bool false, .int .i64 2, .slice Aa 0 ca] 36) = U1 at HN HC HAC HB hHeld ⊢
  have hOld : ∀ j u, (#[.string ⟨#[97]⟩, .bool false, .int .u64 0, .int .u64 167772160, .int .i64 8, .int .i64 1, .int .i64 1, .int .i64 0, .int .i64 8192, .bool false, .int .i64 2, .slice Aa 0 ca] : Array Value).toList[j]? = some u → U1.cell? ((⟨g1, 0, none⟩ : Addr).add j) = some u := by
    intro j u hj
    obtain ⟨h0, h1, h2, h3, h4, h5, h6, h7, h8, h9, h10, h11, h12, h13, h14, h15, h16, h17, h18, h19, h20, h21, h22, h23⟩ := hHeld
    rcases j with _ | _ | _ | _ | _ | _ | _ | _ | _ | _ | _ | _ | j
    · cases Option.some.inj hj; exact h0
    · cases Option.some.inj hj; exact h1
    · cases Option.some.inj hj; exact h2
    · cases Option.some.inj hj; exact h3
    · cases Option.some.inj hj; exact h4
    · cases Option.some.inj hj; exact h5
    · cases Option.some.inj hj; exact h6
    · cases Option.some.inj hj; exact h7
    · cases Option.some.inj hj; exact h8
    · cases Option.some.inj hj; exact h9
    · cases Option.some.inj hj; exact h10
    · cases Option.some.inj hj; exact h11
    · simp at hj
  have hNew : ∀ j u, (#[.string ⟨#[97]⟩, .bool false, .int .u64 0, .int .u64 167772160, .int .i64 8, .int .i64 1, .int .i64 1, .int .i64 0, .int .i64 8192, .bool false, .int .i64 2, .slice Aa 0 ca] : Array Value).toList[j]? = some u → U1.cell? ((⟨gn, 0, none⟩ : Addr).add j) = some u := fun j u hj => by
    rw [Addr.add_lit, Nat.zero_add, blk_cell HN.out j, ← Array.getElem?_toList]
    exact hj
  obtain ⟨v5, U2, hrun, hown, hgr⟩ := run_append_arg_grows (P := Tryz.prog) U1 22 22 36 _ _ 12 120 hu2 rfl rfl rfl rfl rfl (by decide) ⟨g1, 0, none⟩ 1 1 (#[.string ⟨#[97]⟩, .bool false, .int .u64 0, .int .u64 167772160, .int .i64 8, .int .i64 1, .int .i64 1, .int .i64 0, .int .i64 8192, .bool false, .int .i64 2, .slice Aa 0 ca] : Array Value).toList rfl hOld ⟨gn, 0, none⟩ 1 1 (#[.string ⟨#[97]⟩, .bool false, .int .u64 0, .int .u64 167772160, .int .i64 8, .int .i64 1, .int .i64 1, .int .i64 0, .int .i64 8192, .bool false, .int .i64 2, .slice Aa 0 ca] : Array Value).toList rfl hNew (by decide) (by decide) (by decide)
  obtain ⟨A5, c5, hv5, hc5⟩ := q_slice (q_of_own hown)
  subst hv5
  have HB5 := Aside0.mk ((Below.refl _ U1).grown hgr (Nat.le_refl _) (by simp))
  have hCC : Kd.C k36 U2 A5 2 [lvA, lvA] := two_C hown rfl (k36_mk U2 lvA (A11 := Aa) (c11 := ca) (Nat.zero_le _) (Kd.C_below HAC.out HB5.out))
  refine zo0 53 104 (fun K hK => ?_)
  refine value_ (w1 := U2) (v := .slice A5 2 c5) (by rfl) rfl ?_ ?_
  · simp [execOp, resolve, invoke, builtin, Act.eval, hrun, Result.andThen]
  refine hK.out _ _ (lvS.below hHeld HB5.out) (fun hHeld => ?_)
  clear hK K hrun hown hgr hOld hNew
  refine zn 104 ?_
  refine zo0 54 105 (fun K hK => ?_)
  refine zg Tryz.func12 #[.slice A5 2 c5] ?_
  refine (asset_Check.calls 200 A5 c5 [lvA, lvA] 7 U2 hCC hc5 lives18.e9).mono ?_
  rintro e U3 ⟨rfl, hb⟩
  refine ⟨.int .i64 7, rfl, ?_⟩
  refine hK.out _ _ (lvS.below hHeld hb) (fun hHeld => ?_)
  have HBE := Aside0.mk (below_then HB.out HB.out.size (below_then HB5.out HB5.out.size hb))
  clear hK K hb hCC HB HB5 HC HAC HN
  refine zn 105 ?_
  refine zp0 55 106 ?_
  refine zp0 56 107 ?_
  refine zp0 57 0 ?_
  refine zd0 ?_
  go_wp2
  go_ret
  exact ⟨rfl, HBE.out⟩
end Go.Proofs.YtnphnhkinjppjaaGreatDoor.Q
end

section
namespace Go.Proofs.YtnphnhkinjppjaaGreatDoor.Q
open Go.RowKit Go.Proofs.YtnphnhkinjppjaaGreatDoorW.PrintWords Go.Proofs.YtnphnhkinjppjaaGreatDoorW.PrintLast Go.Proofs.YtnphnhkinjppjaaGreatDoorW.PrintMore
def awB (a : Ad) : Bool := decide (0 ≤ a.f1 ∧ a.f1 < 18446744073709551616 ∧ 0 ≤ a.f2 ∧ a.f2 < 18446744073709551616)
theorem awB_iff {a : Ad} : awB a = true ↔ AW a := by unfold awB AW; rw [decide_eq_true_eq]
def w18_AssetFinds.f (k : Nat) (l : List S36) (b0 : Bool) (b1 b2 : Int) : Option Bool := if (l.all (fun x => awB x.f1.f0) && awB ⟨b0, b1, b2⟩) = true then some true else none
abbrev asT (A : S36) (v : Value) : Value := .agg #[.string A.f0, .bool A.f1.f0.f0, .int .u64 A.f1.f0.f1, .int .u64 A.f1.f0.f2, .int .i64 A.f1.f1, .int .i64 A.f2, .int .i64 A.f3, .int .i64 A.f4, .int .i64 A.f5, .bool A.f6, .int .i64 A.f7, v]
end Go.Proofs.YtnphnhkinjppjaaGreatDoor.Q
end

section
set_option maxHeartbeats 8000000
set_option maxRecDepth 100000
namespace Go.Proofs.YtnphnhkinjppjaaGreatDoor.Q
open Go.RowKit Go.Proofs.YtnphnhkinjppjaaGreatDoorW.PrintWords Go.Proofs.YtnphnhkinjppjaaGreatDoorW.PrintLast Go.Proofs.YtnphnhkinjppjaaGreatDoorW.PrintMore
def w18_AssetLongest.f (k : Nat) (l : List S36) (b0 : Bool) (b1 b2 : Int) : Option Bool := if (l.all (fun x => awB x.f1.f0) && awB ⟨b0, b1, b2⟩) = true then some true else none
theorem in_same {a X : S36} {b : Ad} (ha : inB a b = true) (hX : inB X b = true) (h : a.f1.f1 = X.f1.f1) : a.f1 = X.f1 := by
  have h1 := of_decide_eq_true ha
  have h2 := of_decide_eq_true hX
  have e : a.f1.f0 = X.f1.f0 := by
    rw [← h1.2, ← h2.2]
    unfold restN
    rw [h1.1, h2.1, h]
  obtain ⟨p, q⟩ : a.f1.f0 = X.f1.f0 ∧ a.f1.f1 = X.f1.f1 := ⟨e, h⟩
  cases hA : a.f1; cases hB : X.f1
  rw [hA, hB] at p q
  simp only at p q
  rw [p, q]
structure FndI (l : List S36) (b : Ad) (X : S36) : Prop where
  good : ∀ x ∈ l, GoodA x
  pw : l.Pairwise (fun x y => clash x y = false)
  cas : (X = aDef ∧ ∀ x ∈ l, inB x b = false) ∨ (X ∈ l ∧ inB X b = true)
  most : ∀ x ∈ l, inB x b = true → x.f1.f1 ≤ X.f1.f1
theorem fnd_of {l : List S36} (h : chkB l = 0) (b : Ad) : FndI l b (findS b l aDef (-1)) := by
  have hg : ∀ x ∈ l, GoodA x := fun x hx => good_of ((chkB_one h).2 x hx)
  have hp : l.Pairwise (fun x y => clash x y = false) := by
    unfold chkB at h
    split at h
    · cases h
    · exact (chkR_nc l [] h).2
  rcases findS_spec b l aDef (-1) with ⟨e, h2⟩ | ⟨e, h2, h3, h4⟩
  · have hno : ∀ x ∈ l, inB x b = false := fun x hx => by
      cases hi : inB x b
      · rfl
      · have := h2 x hx hi; have := (hg x hx).bits.1; omega
    exact ⟨hg, hp, .inl ⟨e, hno⟩, fun x hx hi => by rw [hno x hx] at hi; cases hi⟩
  · exact ⟨hg, hp, .inr ⟨e, h2⟩, h4⟩
theorem FndI.len {l : List S36} {b : Ad} {X : S36} (h : FndI l b X) : X.f8.length ≤ 1000 := by
  rcases h.cas with ⟨e, _⟩ | ⟨e, _⟩
  · rw [e]; decide
  · have := (h.good _ e).f8; omega
theorem FndI.dflt {l : List S36} {b : Ad} {X a : S36} (h : FndI l b X) (hX : X = aDef) (ha : a ∈ l) (hi : inB a b = true) : a = aDef := by
  rcases h.cas with ⟨_, hno⟩ | ⟨e, h2⟩
  · rw [hno a ha] at hi; cases hi
  · have h1 := h.most a ha hi
    have h3 : X.f1.f1 = 0 := by rw [hX]; rfl
    have h4 := (h.good a ha).bits.1
    rw [← hX]
    exact pw_two h.pw ha e (in_same hi h2 (by omega))
theorem FndI.last {l : List S36} {b : Ad} {X : S36} (h : FndI l b X) {fd : Bool} (hf : ∀ (j : Nat) (hj : j < l.length), inB l[j] b = true → X = l[j] → fd = true) (hfd : fd = false) : X = aDef := by
  rcases h.cas with ⟨e, _⟩ | ⟨e, h2⟩
  · exact e
  · obtain ⟨j, hj, hje⟩ := List.getElem_of_mem e
    have := hf j hj (by rw [hje]; exact h2) hje.symm
    rw [hfd] at this; cases this
structure LgI (w W : World) (ga gx : Nat) (b0 : Bool) (b1 b2 : Int) (X : S36) (Av : Option Addr) (cv : Nat) : Prop where
  bel : Below w.heap.size w W
  adr : W.heap[ga]? = some (.cells #[.bool b0, .int .u64 b1, .int .u64 b2] 31 (0, 0))
  blk : W.heap[gx]? = some (.cells (asC X (.slice Av X.f8.length cv)) 36 (0, 0))
  svc : Kd.C k74 W Av X.f8.length X.f8
  cap : X.f8.length ≤ cv
theorem LgI.below {w W W1 : World} {ga gx : Nat} {b0 : Bool} {b1 b2 : Int} {X : S36} {Av : Option Addr} {cv : Nat} (h : LgI w W ga gx b0 b1 b2 X Av cv) (hb : Below W.heap.size W W1) : LgI w W1 ga gx b0 b1 b2 X Av cv := ⟨below_then h.bel h.bel.size hb, blk_below h.adr hb, blk_below h.blk hb, Kd.C_below h.svc hb, h.cap⟩
abbrev lgX (w' : World) (gx : Nat) (X : S36) (Av : Option Addr) (cv : Nat) : Prop := w'.cell? ⟨gx, 0, none⟩ = some (.string X.f0) ∧ w'.cell? ⟨gx, 1, none⟩ = some (.bool X.f1.f0.f0) ∧ w'.cell? ⟨gx, 2, none⟩ = some (.int .u64 X.f1.f0.f1) ∧ w'.cell? ⟨gx, 3, none⟩ = some (.int .u64 X.f1.f0.f2) ∧ w'.cell? ⟨gx, 4, none⟩ = some (.int .i64 X.f1.f1) ∧ w'.cell? ⟨gx, 5, none⟩ = some (.int .i64 X.f2) ∧ w'.cell? ⟨gx, 6, none⟩ = some (.int .i64 X.f3) ∧ w'.cell? ⟨gx, 7, none⟩ = some (.int .i64 X.f4) ∧ w'.cell? ⟨gx, 8, none⟩ = some (.int .i64 X.f5) ∧ w'.cell? ⟨gx, 9, none⟩ = some (.bool X.f6) ∧ w'.cell? ⟨gx, 10, none⟩ = some (.int .i64 X.f7) ∧ w'.cell? ⟨gx, 11, none⟩ = some (.slice Av X.f8.length cv)
abbrev lgE (w' : World) (ad : Addr) (i : Nat) (a : S36) (Ax : Option Addr) (cx : Nat) : Prop := w'.cell? (ad.add (i * 12)) = some (.string a.f0) ∧ w'.cell? ⟨(ad.add (i * 12)).block, (ad.add (i * 12)).off + 1, none⟩ = some (.bool a.f1.f0.f0) ∧ w'.cell? ⟨(ad.add (i * 12)).block, (ad.add (i * 12)).off + 2, none⟩ = some (.int .u64 a.f1.f0.f1) ∧ w'.cell? ⟨(ad.add (i * 12)).block, (ad.add (i * 12)).off + 3, none⟩ = some (.int .u64 a.f1.f0.f2) ∧ w'.cell? ⟨(ad.add (i * 12)).block, (ad.add (i * 12)).off + 4, none⟩ = some (.int .i64 a.f1.f1) ∧ w'.cell? ⟨(ad.add (i * 12)).block, (ad.add (i * 12)).off + 5, none⟩ = some (.int .i64 a.f2) ∧ w'.cell? ⟨(ad.add (i * 12)).block, (ad.add (i * 12)).off + 6, none⟩ = some (.int .i64 a.f3) ∧ w'.cell? ⟨(ad.add (i * 12)).block, (ad.add (i * 12)).off + 7, none⟩ = some (.int .i64 a.f4) ∧ w'.cell? ⟨(ad.add (i * 12)).block, (ad.add (i * 12)).off + 8, none⟩ = some (.int .i64 a.f5) ∧ w'.cell? ⟨(ad.add (i * 12)).block, (ad.add (i * 12)).off + 9, none⟩ = some (.bool a.f6) ∧ w'.cell? ⟨(ad.add (i * 12)).block, (ad.add (i * 12)).off + 10, none⟩ = some (.int .i64 a.f7) ∧ w'.cell? ⟨(ad.add (i * 12)).block, (ad.add (i * 12)).off + 11, none⟩ = some (.slice Ax a.f8.length cx)
abbrev lgS (w' : World) (gx : Nat) (X : S36) (Av : Option Addr) (cv : Nat) (ad : Addr) (i : Nat) (a : S36) (Ax : Option Addr) (cx : Nat) : Prop := w'.cell? ⟨gx, 0, none⟩ = some (.string X.f0) ∧ w'.cell? ⟨gx, 1, none⟩ = some (.bool X.f1.f0.f0) ∧ w'.cell? ⟨gx, 2, none⟩ = some (.int .u64 X.f1.f0.f1) ∧ w'.cell? ⟨gx, 3, none⟩ = some (.int .u64 X.f1.f0.f2) ∧ w'.cell? ⟨gx, 4, none⟩ = some (.int .i64 X.f1.f1) ∧ w'.cell? ⟨gx, 5, none⟩ = some (.int .i64 X.f2) ∧ w'.cell? ⟨gx, 6, none⟩ = some (.int .i64 X.f3) ∧ w'.cell? ⟨gx, 7, none⟩ = some (.int .i64 X.f4) ∧ w'.cell? ⟨gx, 8, none⟩ = some (.int .i64 X.f5) ∧ w'.cell? ⟨gx, 9, none⟩ = some (.bool X.f6) ∧ w'.cell? ⟨gx, 10, none⟩ = some (.int .i64 X.f7) ∧ w'.cell? ⟨gx, 11, none⟩ = some (.slice Av X.f8.length cv) ∧ w'.cell? (ad.add (i * 12)) = some (.string a.f0) ∧ w'.cell? ⟨(ad.add (i * 12)).block, (ad.add (i * 12)).off + 1, none⟩ = some (.bool a.f1.f0.f0) ∧ w'.cell? ⟨(ad.add (i * 12)).block, (ad.add (i * 12)).off + 2, none⟩ = some (.int .u64 a.f1.f0.f1) ∧ w'.cell? ⟨(ad.add (i * 12)).block, (ad.add (i * 12)).off + 3, none⟩ = some (.int .u64 a.f1.f0.f2) ∧ w'.cell? ⟨(ad.add (i * 12)).block, (ad.add (i * 12)).off + 4, none⟩ = some (.int .i64 a.f1.f1) ∧ w'.cell? ⟨(ad.add (i * 12)).block, (ad.add (i * 12)).off + 5, none⟩ = some (.int .i64 a.f2) ∧ w'.cell? ⟨(ad.add (i * 12)).block, (ad.add (i * 12)).off + 6, none⟩ = some (.int .i64 a.f3) ∧ w'.cell? ⟨(ad.add (i * 12)).block, (ad.add (i * 12)).off + 7, none⟩ = some (.int .i64 a.f4) ∧ w'.cell? ⟨(ad.add (i * 12)).block, (ad.add (i * 12)).off + 8, none⟩ = some (.int .i64 a.f5) ∧ w'.cell? ⟨(ad.add (i * 12)).block, (ad.add (i * 12)).off + 9, none⟩ = some (.bool a.f6) ∧ w'.cell? ⟨(ad.add (i * 12)).block, (ad.add (i * 12)).off + 10, none⟩ = some (.int .i64 a.f7) ∧ w'.cell? ⟨(ad.add (i * 12)).block, (ad.add (i * 12)).off + 11, none⟩ = some (.slice Ax a.f8.length cx)
theorem LgI.hX {w W : World} {ga gx : Nat} {b0 : Bool} {b1 b2 : Int} {X : S36} {Av : Option Addr} {cv : Nat} (h : LgI w W ga gx b0 b1 b2 X Av cv) : lgX W gx X Av cv := ⟨zc (Aside0.mk h.blk) 0, zc (Aside0.mk h.blk) 1, zc (Aside0.mk h.blk) 2, zc (Aside0.mk h.blk) 3, zc (Aside0.mk h.blk) 4, zc (Aside0.mk h.blk) 5, zc (Aside0.mk h.blk) 6, zc (Aside0.mk h.blk) 7, zc (Aside0.mk h.blk) 8, zc (Aside0.mk h.blk) 9, zc (Aside0.mk h.blk) 10, zc (Aside0.mk h.blk) 11⟩
theorem LgI.hS {w W : World} {ga gx : Nat} {b0 : Bool} {b1 b2 : Int} {X : S36} {Av : Option Addr} {cv : Nat} {ad : Addr} {i : Nat} {a : S36} {Ax : Option Addr} {cx : Nat} (h : LgI w W ga gx b0 b1 b2 X Av cv) (he : lgE w ad i a Ax cx) : lgS W gx X Av cv ad i a Ax cx := by
  obtain ⟨k0, k1, k2, k3, k4, k5, k6, k7, k8, k9, k10, k11⟩ := he
  exact ⟨zc (Aside0.mk h.blk) 0, zc (Aside0.mk h.blk) 1, zc (Aside0.mk h.blk) 2, zc (Aside0.mk h.blk) 3, zc (Aside0.mk h.blk) 4, zc (Aside0.mk h.blk) 5, zc (Aside0.mk h.blk) 6, zc (Aside0.mk h.blk) 7, zc (Aside0.mk h.blk) 8, zc (Aside0.mk h.blk) 9, zc (Aside0.mk h.blk) 10, zc (Aside0.mk h.blk) 11, pw_cell_below h.bel k0, pw_cell_below h.bel k1, pw_cell_below h.bel k2, pw_cell_below h.bel k3, pw_cell_below h.bel k4, pw_cell_below h.bel k5, pw_cell_below h.bel k6, pw_cell_below h.bel k7, pw_cell_below h.bel k8, pw_cell_below h.bel k9, pw_cell_below h.bel k10, pw_cell_below h.bel k11⟩
theorem w18_AssetLongest.calls (k : Nat) (A : Option Addr) (c : Nat) (l : List S36) (b0 : Bool) (b1 b2 : Int) (r : Bool) (w : World) (hC : Kd.C k36 w A l.length l) (hc : l.length ≤ c) (h : w18_AssetLongest.f k l b0 b1 b2 = some r) (hW_ : WOK w) :
    Calls Tryz.prog 9 #[.slice A l.length c, .agg #[.bool b0, .int .u64 b1, .int .u64 b2]] w fun e w' => e = .returned (.bool r) ∧ Below w.heap.size w w' := by
  have hu4 := Tryz.underlying31
  have hu := Tryz.underlying36
  have hu3 := Tryz.underlying33
  unfold w18_AssetLongest.f at h
  split at h
  case isFalse => cases h
  rename_i hok
  have hr := Option.some.inj h
  subst hr
  rw [Bool.and_eq_true, List.all_eq_true] at hok
  have ha : ∀ x ∈ l, AW x.f1.f0 := fun x hx => awB_iff.1 (hok.1 x hx)
  have hb : AW ⟨b0, b1, b2⟩ := awB_iff.1 hok.2
  have HA := Aside0.mk ha
  have HBW := Aside0.mk hb
  have HW := Aside0.mk hW_
  have HC := Aside0.mk hC
  have HCC := Aside0.mk hc
  obtain ⟨K1, e1⟩ := (few_ev l).rounds
  have E1 := Aside0.mk e1
  obtain ⟨K2, e2⟩ := (check_ev l HA.out).rounds
  have E2 := Aside0.mk e2
  obtain ⟨n, hn⟩ : ∃ n, l.length = n := ⟨_, rfl⟩
  have HN := Aside0.mk hn
  rw [hn]
  clear hok h ha hb hW_ hC hc e1 e2 hn
  go_enter Tryz.func9, Tryz.ntmps9
  go_upto_region 1 with (fail)
  have HX : Aside0 ((w.alloc (.cells #[.bool b0, .int .u64 b1, .int .u64 b2] 31)).heap[w.heap.size]? = some (.cells #[.bool b0, .int .u64 b1, .int .u64 b2] 31 (0, 0))) := ⟨heap_alloc_new _ _⟩
  have HB := Aside0.mk (below_alloc (Below.refl w.heap.size w) (.cells #[.bool b0, .int .u64 b1, .int .u64 b2] 31))
  obtain ⟨ga, hga⟩ : ∃ x, w.heap.size = x := ⟨_, rfl⟩
  rw [hga] at HX
  simp only [hga]
  clear hga
  change Code.wp _ _ _ _ (w.alloc (.cells #[.bool b0, .int .u64 b1, .int .u64 b2] 31))
  generalize w.alloc (.cells #[.bool b0, .int .u64 b1, .int .u64 b2] 31) = W1 at HX HB ⊢
  go_wp2_with fail
  refine (w18_lives.calls 0 true W1 rfl (HW.out.below HB.out)).mono ?_
  rintro e w2 ⟨rfl, hb⟩
  replace HX := Aside0.mk (blk_below HX.out hb)
  replace HB := Aside0.mk (below_then HB.out HB.out.size hb)
  clear hb
  have hcf := fun (V : World) (hV : Below w.heap.size w V) => r18_Few.calls K1 A c l _ V (Kd.C_below HC.out hV) HCC.out E1.out
  rw [HN.out] at hcf
  have HCF := Aside0.mk hcf
  clear hcf
  by_cases hk : chkB l = 0
  rotate_left
  · obtain ⟨er, her⟩ : ∃ er, chkB l = er := ⟨_, rfl⟩
    rw [her] at hk E2
    have g1 : (er != 0) = true := bne_iff_ne.mpr hk
    have HK := Aside0.mk hk
    clear hk her
    go_wp2_with fail
    have hcn := new_bad K2 A c l er w2 (Kd.C_below HC.out HB.out) HCC.out E2.out HK.out
    rw [HN.out] at hcn
    refine hcn.mono ?_
    rintro e w4 ⟨rfl, hb⟩
    replace HX := Aside0.mk (blk_below HX.out hb)
    replace HB := Aside0.mk (below_then HB.out HB.out.size hb)
    clear hb hcn
    go_wp2_with fail
    refine (HCF.out w4 HB.out).mono ?_
    rintro e w5 ⟨rfl, hb⟩
    replace HB := Aside0.mk (below_then HB.out HB.out.size hb.below)
    clear hb
    cases hf : fewB l
    · go_wp2
      go_ret
      exact ⟨rfl, HB.out⟩
    · go_wp2
      go_ret
      exact ⟨rfl, HB.out⟩
  have HFN := Aside0.mk (fnd_of hk ⟨b0, b1, b2⟩)
  have H64 := Aside0.mk (chkB_one hk).1
  rw [hk] at E2
  clear hk
  go_wp2_with fail
  have hcn := new_ok K2 A c l w2 (Kd.C_below HC.out HB.out) HCC.out E2.out (by have := H64.out; omega) (fun x hx => by have := (HFN.out.good x hx).f8; omega)
  rw [HN.out] at hcn
  refine hcn.mono ?_
  rintro e w4 ⟨wn, pt, vt, rfl, hbn, hT⟩
  have HBN := Aside0.mk (below_then hbn hbn.size hT.bel)
  have HT := Aside0.mk hT
  replace HX := Aside0.mk (blk_below HX.out HBN.out)
  replace HB := Aside0.mk (below_then HB.out HB.out.size HBN.out)
  clear hbn hT HBN hcn
  go_wp2_with fail
  refine (HCF.out w4 HB.out).mono ?_
  rintro e w5 ⟨rfl, hb⟩
  replace HX := Aside0.mk (blk_below HX.out hb.below)
  replace HT := Aside0.mk (HT.out.below hb.below)
  replace HB := Aside0.mk (below_then HB.out HB.out.size hb.below)
  clear hb
  cases hf : fewB l
  · go_wp2
    go_ret
    exact ⟨rfl, HB.out⟩
  obtain ⟨q0, q1, q2⟩ := zc3 HX
  go_wp2_with fail
  refine (r06_Valid.calls b0 b1 b2 (adB ⟨b0, b1, b2⟩) w5 (rfine_eq ⟨b0, b1, b2⟩)).mono ?_
  rintro e w6 ⟨rfl, hb⟩
  replace HX := Aside0.mk (blk_below HX.out hb)
  replace HT := Aside0.mk (HT.out.below hb)
  replace HB := Aside0.mk (below_then HB.out HB.out.size hb)
  clear hb hf q0 q1 q2
  cases hv : adB ⟨b0, b1, b2⟩
  · go_wp2
    go_ret
    exact ⟨rfl, HB.out⟩
  have HAF := Aside0.mk ((fine_iff HBW.out).1 hv)
  clear hv
  have hfe : asset_Find.f l b0 b1 b2 = some (findS ⟨b0, b1, b2⟩ l aDef (-1)) := find_eq HBW.out l (fun x hx => ⟨HFN.out.good x hx, HA.out x hx⟩) aDef (-1)
  obtain ⟨X, hX⟩ : ∃ X, findS ⟨b0, b1, b2⟩ l aDef (-1) = X := ⟨_, rfl⟩
  rw [hX] at hfe HFN
  have HFE := Aside0.mk hfe
  clear hX hfe
  obtain ⟨q0, q1, q2⟩ := zc3 HX
  go_wp2_with fail
  refine (find_ok wn w6 pt l vt b0 b1 b2 X HT.out (by have := H64.out; omega) (fun x hx => by have := (HFN.out.good x hx).f8; omega) HFE.out).mono ?_
  rintro e w7 ⟨v', rfl, ho, hb⟩
  obtain ⟨Av, cv, hv6⟩ := Kd.R_slice ho
  subst hv6
  replace HX := Aside0.mk (blk_below HX.out hb)
  replace HB := Aside0.mk (below_then HB.out HB.out.size hb)
  have HS6 := Aside0.mk (Kd.R_reads' ho).2
  clear ho hb q0 q1 q2 HT
  go_upto_region 7 with (fail)
  have HL : Aside0 (LgI w (w7.alloc (.cells (asC X (.slice Av X.f8.length cv)) 36)) ga w7.heap.size b0 b1 b2 X Av cv) := ⟨below_alloc HB.out _, blk_alloc HX.out _, heap_alloc_new _ _, Kd.C_below HS6.out.2 (below_alloc (Below.refl _ _) _), HS6.out.1⟩
  obtain ⟨gx, hgx⟩ : ∃ x, w7.heap.size = x := ⟨_, rfl⟩
  rw [hgx] at HL
  simp only [hgx]
  clear hgx HX HB HS6
  change Code.wp _ _ _ _ (w7.alloc (.cells (asC X (.slice Av X.f8.length cv)) 36))
  generalize w7.alloc (.cells (asC X (.slice Av X.f8.length cv)) 36) = W8 at HL ⊢
  go_upto_region 9 with (fail)
  go_loopg [8, 9] (n + 1) (fun gg v8 v9 wr => ∃ (i : Nat) (fd : Bool), v9 = .int .i64 (i : Int) ∧ v8 = .bool fd ∧ Aside0 (gg + i = n + 1 ∧ i ≤ n) ∧ Aside0 (∀ (j : Nat) (hj : j < l.length), j < i → inB l[j] ⟨b0, b1, b2⟩ = true → X = l[j] → fd = true) ∧ Aside0 (LgI w wr ga gx b0 b1 b2 X Av cv))
  case atStart => exact ⟨0, false, rfl, rfl, ⟨by omega, by omega⟩, ⟨fun j _ h => absurd h (by omega)⟩, HL⟩
  case round =>
    clear HL
    obtain ⟨i, fd, rfl, rfl, HI, HFD, HL⟩ := hrel
    by_cases hi : i < n
    · have HII := Aside0.mk hi
      have b1' : decide ((i : Int) < (n : Int)) = true := decide_eq_true (by omega)
      have b2' : decide (i < n) = true := decide_eq_true hi
      have b3 : n ≤ 1000000 := by have := H64.out; have := HN.out; omega
      obtain ⟨ad, Ax, cx, rfl, k0, k1, k2, k3, k4, k5, k6, k7, k8, k9, k10, k11, kl, kc⟩ := at_T36 HC.out (i : Int) (by omega) (by rw [HN.out]; omega)
      simp only [Int.toNat_natCast] at k0 k1 k2 k3 k4 k5 k6 k7 k8 k9 k10 k11
      have hai : rd_T36 l (i : Int) = l[i]'(by rw [HN.out]; exact hi) := tab_get (by rw [HN.out]; exact hi)
      obtain ⟨a, hae⟩ : ∃ a, rd_T36 l (i : Int) = a := ⟨_, rfl⟩
      have HAL : Aside0 (a ∈ l) := ⟨by rw [← hae]; exact tab_mem (by rw [HN.out]; exact hi)⟩
      have HAI : Aside0 (∀ (hj : i < l.length), l[i]'hj = a) := ⟨fun hj => by rw [← hae, hai]⟩
      rw [hae] at k0 k1 k2 k3 k4 k5 k6 k7 k8 k9 k10 k11 kl kc
      have HKC := Aside0.mk kc
      have HKL := Aside0.mk kl
      have HE : Aside0 (lgE w ad i a Ax cx) := ⟨⟨k0, k1, k2, k3, k4, k5, k6, k7, k8, k9, k10, k11⟩⟩
      clear kl kc hae hai k0 k1 k2 k3 k4 k5 k6 k7 k8 k9 k10 k11
      have HA8 : Aside0 (a.f8.length ≤ 1000) := ⟨by have := (HFN.out.good a HAL.out).f8; omega⟩
      go_upto_region 11 with (fail)
      refine start_ (n := 8) (S := fun w' => w'.cell? ⟨ga, 0, none⟩ = some (.bool b0) ∧ w'.cell? ⟨ga, 1, none⟩ = some (.int .u64 b1) ∧ w'.cell? ⟨ga, 2, none⟩ = some (.int .u64 b2) ∧ w'.cell? ⟨(ad.add (i * 12)).block, (ad.add (i * 12)).off + 1, none⟩ = some (.bool a.f1.f0.f0) ∧ w'.cell? ⟨(ad.add (i * 12)).block, (ad.add (i * 12)).off + 2, none⟩ = some (.int .u64 a.f1.f0.f1) ∧ w'.cell? ⟨(ad.add (i * 12)).block, (ad.add (i * 12)).off + 3, none⟩ = some (.int .u64 a.f1.f0.f2) ∧ w'.cell? ⟨(ad.add (i * 12)).block, (ad.add (i * 12)).off + 4, none⟩ = some (.int .i64 a.f1.f1)) (ds := []) #[false, false, false, false, false, false, false, false] (by kernel_rfl) rfl rfl ((HL.out.below (below_drew (Below.refl _ _))) |> fun hL => ⟨zc (Aside0.mk hL.adr) 0, zc (Aside0.mk hL.adr) 1, zc (Aside0.mk hL.adr) 2, pw_cell_below hL.bel HE.out.2.1, pw_cell_below hL.bel HE.out.2.2.1, pw_cell_below hL.bel HE.out.2.2.2.1, pw_cell_below hL.bel HE.out.2.2.2.2.1⟩) (fun hHeld => ?_)
      replace HL := Aside0.mk (HL.out.below (below_drew (Below.refl _ _)))
      generalize World.drew _ = V1 at HL hHeld ⊢
      refine zp0 0 39 ?_; refine zp0 1 40 ?_; refine zp0 2 41 ?_; refine zp0 3 42 ?_
      refine zt0 4 43 hHeld ?_; refine zt0 5 44 hHeld ?_; refine zo0 6 45 (fun K hK => ?_)
      obtain ⟨K5, e5⟩ := (rin_ev (HFN.out.good a HAL.out) HAF.out).rounds
      refine zg Tryz.func29 #[.agg #[.bool a.f1.f0.f0, .int .u64 a.f1.f0.f1, .int .u64 a.f1.f0.f2, .int .i64 a.f1.f1], .agg #[.bool b0, .int .u64 b1, .int .u64 b2]] ?_
      refine (r06_Contains.calls K5 _ _ _ _ _ _ _ (inB a ⟨b0, b1, b2⟩) V1 e5).mono ?_
      rintro e V2 ⟨rfl, hb⟩
      refine ⟨_, rfl, ?_⟩
      replace HL := Aside0.mk (HL.out.below hb)
      refine hK.out _ _ (HL.out |> fun hL => ⟨zc (Aside0.mk hL.adr) 0, zc (Aside0.mk hL.adr) 1, zc (Aside0.mk hL.adr) 2, pw_cell_below hL.bel HE.out.2.1, pw_cell_below hL.bel HE.out.2.2.1, pw_cell_below hL.bel HE.out.2.2.2.1, pw_cell_below hL.bel HE.out.2.2.2.2.1⟩) (fun hHeld => ?_)
      clear hK K hb e5
      refine zn 45 ?_; refine zp0 7 10 ?_
      refine zd0 ?_
      clear hHeld
      have HI1 : Aside0 ((n - i) + (i + 1) = n + 1 ∧ i + 1 ≤ n) := ⟨by have := HII.out; omega, HII.out⟩
      cases hin : inB a ⟨b0, b1, b2⟩
      · have HIN := Aside0.mk hin
        clear hin
        go_upto_region 12 with (fail)
        refine start_ (n := 9) (S := fun w' => True) (ds := []) #[false, false, false, false, false, false, false, false, false] (by kernel_rfl) rfl rfl (trivial) (fun hHeld => ?_)
        replace HL := Aside0.mk (HL.out.below (below_drew (Below.refl _ _)))
        generalize World.drew _ = V1 at HL hHeld ⊢
        refine zp0 0 46 ?_; refine zp0 1 47 ?_
        refine zu0 2 48 ?_; refine zu0 3 49 ?_; refine zu0 4 50 ?_; refine zu0 5 51 ?_; refine zu0 6 52 ?_; refine zu0 7 53 ?_
        refine zp0 8 54 ?_
        refine zd0 ?_
        go_upto_region 14 with (fail)
        refine start_ (n := 13) (S := fun w' => True) (ds := []) #[false, false, false, false, false, false, false, false, false, false, false, false, false] (by kernel_rfl) rfl rfl (trivial) (fun hHeld => ?_)
        replace HL := Aside0.mk (HL.out.below (below_drew (Below.refl _ _)))
        generalize World.drew _ = V1 at HL hHeld ⊢
        refine zp0 0 55 ?_; refine zp0 1 56 ?_
        refine zu0 2 57 ?_; refine zu0 3 58 ?_; refine zu0 4 59 ?_; refine zu0 5 60 ?_; refine zu0 6 61 ?_; refine zu0 7 62 ?_; refine zu0 8 63 ?_; refine zu0 9 64 ?_; refine zu0 10 65 ?_; refine zu0 11 66 ?_
        refine zp0 12 67 ?_
        refine zd0 ?_
        go_upto_region 16 with (fail)
        refine start_ (n := 15) (S := fun w' => True) (ds := []) #[false, false, false, false, false, false, false, false, false, false, false, false, false, false, false] (by kernel_rfl) rfl rfl (trivial) (fun hHeld => ?_)
        replace HL := Aside0.mk (HL.out.below (below_drew (Below.refl _ _)))
        generalize World.drew _ = V1 at HL hHeld ⊢
        refine zp0 0 68 ?_; refine zp0 1 69 ?_
        refine zu0 2 70 ?_; refine zu0 3 71 ?_; refine zu0 4 72 ?_
        refine zp0 5 73 ?_; refine zp0 6 74 ?_
        refine zu0 7 75 ?_; refine zu0 8 76 ?_; refine zu0 9 77 ?_; refine zu0 10 78 ?_; refine zu0 11 79 ?_; refine zu0 12 80 ?_; refine zu0 13 81 ?_
        refine zp0 14 82 ?_
        refine zd0 ?_
        have HFD2 : Aside0 (∀ (j : Nat) (hj : j < l.length), j < i + 1 → inB l[j] ⟨b0, b1, b2⟩ = true → X = l[j] → fd = true) := ⟨fun j hj hlt hij hxj => by
          by_cases hji : j < i
          · exact HFD.out j hj hji hij hxj
          · obtain rfl : j = i := by omega
            rw [HAI.out hj] at hij hxj
            rw [HIN.out] at hij; cases hij⟩
        have hi2 : i < n := HII.out
        go_wp2
        go_roundg (n - i)
        case measure => have := HI.out.1; have := HII.out; omega
        case rel => exact ⟨i + 1, fd, by (have := HII.out; go_num), rfl, HI1, HFD2, HL⟩
      · have HIN := Aside0.mk hin
        clear hin
        go_upto_region 12 with (fail)
        refine start_ (n := 9) (S := fun w' => lgS w' gx X Av cv ad i a Ax cx) (ds := []) #[false, false, false, false, false, false, false, false, false] (by kernel_rfl) rfl rfl ((HL.out.below (below_drew (Below.refl _ _))).hS HE.out) (fun hHeld => ?_)
        replace HL := Aside0.mk (HL.out.below (below_drew (Below.refl _ _)))
        generalize World.drew _ = V1 at HL hHeld ⊢
        refine zp0 0 46 ?_; refine zp0 1 47 ?_
        refine zt0 2 48 hHeld ?_; refine zp0 3 49 ?_; refine zp0 4 50 ?_; refine zp0 5 51 ?_
        refine zt0 6 52 hHeld ?_
        obtain ⟨v1, hv1, e6⟩ := one_some X a HFN.out.len
        obtain ⟨K6, e6⟩ := e6.rounds
        refine zo0 7 53 (fun K hK => ?_)
        refine zg Tryz.func16 #[asT X (.slice Av X.f8.length cv), asT a (.slice Ax a.f8.length cx)] ?_
        refine (r18_One.calls K6 _ _ _ _ _ _ _ _ _ _ _ Av cv X.f8 _ _ _ _ _ _ _ _ _ _ _ Ax cx a.f8 v1 _ HL.out.svc HL.out.cap (Kd.C_below HKC.out HL.out.bel) HKL.out e6).mono ?_
        rintro e V3 ⟨rfl, hb⟩
        refine ⟨.bool v1, rfl, ?_⟩
        replace HL := Aside0.mk (HL.out.below hb)
        refine hK.out _ _ (HL.out.hS HE.out) (fun hHeld => ?_)
        clear hK K hb
        refine zn 53 ?_
        clear e6
        refine zp0 8 54 ?_
        refine zd0 ?_
        clear hHeld
        have HV1 := Aside0.mk hv1
        clear hv1
        have HMO := Aside0.mk (HFN.out.most a HAL.out HIN.out)
        cases v1
        · go_upto_region 14 with (fail)
          refine start_ (n := 13) (S := fun w' => lgS w' gx X Av cv ad i a Ax cx) (ds := []) #[false, false, false, false, false, false, false, false, false, false, false, false, false] (by kernel_rfl) rfl rfl ((HL.out.below (below_drew (Below.refl _ _))).hS HE.out) (fun hHeld => ?_)
          replace HL := Aside0.mk (HL.out.below (below_drew (Below.refl _ _)))
          generalize World.drew _ = V1 at HL hHeld ⊢
          refine zp0 0 55 ?_; refine zp0 1 56 ?_; refine zp0 2 57 ?_; refine zp0 3 58 ?_; refine zp0 4 59 ?_; refine zp0 5 60 ?_; refine zp0 6 61 ?_
          refine zt0 7 62 hHeld ?_; refine zp0 8 63 ?_; refine zp0 9 64 ?_
          refine zt0 10 65 hHeld ?_
          have g9 : decide (X.f1.f1 < a.f1.f1) = false := decide_eq_false (by have := HMO.out; omega)
          refine zp0 11 66 ?_; refine zp0 12 67 ?_
          refine zd0 ?_
          clear hHeld g9
          go_upto_region 16 with (fail)
          refine start_ (n := 15) (S := fun w' => lgS w' gx X Av cv ad i a Ax cx) (ds := []) #[false, false, false, false, false, false, false, false, false, false, false, false, false, false, false] (by kernel_rfl) rfl rfl ((HL.out.below (below_drew (Below.refl _ _))).hS HE.out) (fun hHeld => ?_)
          replace HL := Aside0.mk (HL.out.below (below_drew (Below.refl _ _)))
          generalize World.drew _ = V1 at HL hHeld ⊢
          refine zp0 0 68 ?_; refine zp0 1 69 ?_
          refine zt0 2 70 hHeld ?_
          refine zo0 3 71 (fun K hK => ?_)
          refine zg Tryz.func17 #[] ?_
          refine (asset_Default.calls _ _ _ _ _ _ _ _ _ _ _ _ _ rfl).mono ?_
          rintro e V4 ⟨v0, rfl, ho, hb⟩
          obtain ⟨Ad1, cd1, hv0⟩ := Kd.R_slice ho
          subst hv0
          refine ⟨asT aDef (.slice Ad1 aDef.f8.length cd1), rfl, ?_⟩
          replace HL := Aside0.mk (HL.out.below hb)
          refine hK.out _ _ (HL.out.hS HE.out) (fun hHeld => ?_)
          clear hK K hb ho
          refine zn 71 ?_
          obtain ⟨v2, hv2, e7⟩ := one_some X aDef HFN.out.len
          obtain ⟨K7, e7⟩ := e7.rounds
          refine zo0 4 72 (fun K hK => ?_)
          refine zg Tryz.func16 #[asT X (.slice Av X.f8.length cv), asT aDef (.slice Ad1 aDef.f8.length cd1)] ?_
          refine (r18_One.calls K7 _ _ _ _ _ _ _ _ _ _ _ Av cv X.f8 _ _ _ _ _ _ _ _ _ _ _ Ad1 cd1 aDef.f8 v2 _ HL.out.svc HL.out.cap ⟨rfl, by decide, fun h => absurd h (by decide)⟩ (Nat.zero_le _) e7).mono ?_
          rintro e V5 ⟨rfl, hb⟩
          refine ⟨.bool v2, rfl, ?_⟩
          replace HL := Aside0.mk (HL.out.below hb)
          refine hK.out _ _ (HL.out.hS HE.out) (fun hHeld => ?_)
          clear hK K hb
          refine zn 72 ?_
          clear e7
          cases v2
          · clear hv2
            refine zp0 5 73 ?_; refine zp0 6 74 ?_
            refine zu0 7 75 ?_; refine zu0 8 76 ?_; refine zu0 9 77 ?_; refine zu0 10 78 ?_; refine zu0 11 79 ?_; refine zu0 12 80 ?_; refine zu0 13 81 ?_
            refine zp0 14 82 ?_
            refine zd0 ?_
            clear hHeld
            have HFD2 : Aside0 (∀ (j : Nat) (hj : j < l.length), j < i + 1 → inB l[j] ⟨b0, b1, b2⟩ = true → X = l[j] → fd = true) := ⟨fun j hj hlt hij hxj => by
              by_cases hji : j < i
              · exact HFD.out j hj hji hij hxj
              · obtain rfl : j = i := by omega
                rw [HAI.out hj] at hij hxj
                cases HV1.out.2 hxj⟩
            have hi2 : i < n := HII.out
            go_wp2
            go_roundg (n - i)
            case measure => have := HI.out.1; have := HII.out; omega
            case rel => exact ⟨i + 1, fd, by (have := HII.out; go_num), rfl, HI1, HFD2, HL⟩
          · have HAD := Aside0.mk (HFN.out.dflt (hv2.1 rfl) HAL.out HIN.out)
            clear hv2
            refine zp0 5 73 ?_; refine zp0 6 74 ?_; refine zp0 7 75 ?_; refine zp0 8 76 ?_; refine zp0 9 77 ?_
            refine zt0 10 78 hHeld ?_
            refine zo0 11 79 (fun K hK => ?_)
            refine zg Tryz.func17 #[] ?_
            refine (asset_Default.calls _ _ _ _ _ _ _ _ _ _ _ _ _ rfl).mono ?_
            rintro e V6 ⟨v0, rfl, ho, hb⟩
            obtain ⟨Ad2, cd2, hv0⟩ := Kd.R_slice ho
            subst hv0
            refine ⟨asT aDef (.slice Ad2 aDef.f8.length cd2), rfl, ?_⟩
            replace HL := Aside0.mk (HL.out.below hb)
            refine hK.out _ _ (HL.out.hS HE.out) (fun hHeld => ?_)
            clear hK K hb ho
            refine zn 79 ?_
            obtain ⟨v3, hv3, e8⟩ := one_some a aDef HA8.out
            obtain ⟨K8, e8⟩ := e8.rounds
            obtain rfl := hv3.2 HAD.out
            clear hv3
            refine zo0 12 80 (fun K hK => ?_)
            refine zg Tryz.func16 #[asT a (.slice Ax a.f8.length cx), asT aDef (.slice Ad2 aDef.f8.length cd2)] ?_
            refine (r18_One.calls K8 _ _ _ _ _ _ _ _ _ _ _ Ax cx a.f8 _ _ _ _ _ _ _ _ _ _ _ Ad2 cd2 aDef.f8 true _ (Kd.C_below HKC.out HL.out.bel) HKL.out ⟨rfl, by decide, fun h => absurd h (by decide)⟩ (Nat.zero_le _) e8).mono ?_
            rintro e V7 ⟨rfl, hb⟩
            refine ⟨.bool true, rfl, ?_⟩
            replace HL := Aside0.mk (HL.out.below hb)
            refine hK.out _ _ (HL.out.hS HE.out) (fun hHeld => ?_)
            clear hK K hb
            refine zn 80 ?_
            clear e8
            refine zp0 13 81 ?_; refine zp0 14 82 ?_
            refine zd0 ?_
            clear hHeld
            have HFD2 : Aside0 (∀ (j : Nat) (hj : j < l.length), j < i + 1 → inB l[j] ⟨b0, b1, b2⟩ = true → X = l[j] → fd = true) := ⟨fun j hj hlt hij hxj => by
              by_cases hji : j < i
              · exact HFD.out j hj hji hij hxj
              · obtain rfl : j = i := by omega
                rw [HAI.out hj] at hij hxj
                cases HV1.out.2 hxj⟩
            have hi2 : i < n := HII.out
            go_wp2
            go_roundg (n - i)
            case measure => have := HI.out.1; have := HII.out; omega
            case rel => exact ⟨i + 1, fd, by (have := HII.out; go_num), rfl, HI1, HFD2, HL⟩
        · go_upto_region 14 with (fail)
          refine start_ (n := 13) (S := fun w' => lgS w' gx X Av cv ad i a Ax cx) (ds := []) #[false, false, false, false, false, false, false, false, false, false, false, false, false] (by kernel_rfl) rfl rfl ((HL.out.below (below_drew (Below.refl _ _))).hS HE.out) (fun hHeld => ?_)
          replace HL := Aside0.mk (HL.out.below (below_drew (Below.refl _ _)))
          generalize World.drew _ = V1 at HL hHeld ⊢
          refine zp0 0 55 ?_; refine zp0 1 56 ?_; refine zp0 2 57 ?_; refine zp0 3 58 ?_; refine zp0 4 59 ?_; refine zp0 5 60 ?_; refine zp0 6 61 ?_
          refine zt0 7 62 hHeld ?_; refine zp0 8 63 ?_; refine zp0 9 64 ?_
          refine zt0 10 65 hHeld ?_
          have g9 : decide (X.f1.f1 < a.f1.f1) = false := decide_eq_false (by have := HMO.out; omega)
          refine zp0 11 66 ?_; refine zp0 12 67 ?_
          refine zd0 ?_
          clear hHeld g9
          go_upto_region 16 with (fail)
          refine start_ (n := 15) (S := fun w' => lgS w' gx X Av cv ad i a Ax cx) (ds := []) #[false, false, false, false, false, false, false, false, false, false, false, false, false, false, false] (by kernel_rfl) rfl rfl ((HL.out.below (below_drew (Below.refl _ _))).hS HE.out) (fun hHeld => ?_)
          replace HL := Aside0.mk (HL.out.below (below_drew (Below.refl _ _)))
          generalize World.drew _ = V1 at HL hHeld ⊢
          refine zp0 0 68 ?_; refine zp0 1 69 ?_
          refine zt0 2 70 hHeld ?_
          refine zo0 3 71 (fun K hK => ?_)
          refine zg Tryz.func17 #[] ?_
          refine (asset_Default.calls _ _ _ _ _ _ _ _ _ _ _ _ _ rfl).mono ?_
          rintro e V4 ⟨v0, rfl, ho, hb⟩
          obtain ⟨Ad1, cd1, hv0⟩ := Kd.R_slice ho
          subst hv0
          refine ⟨asT aDef (.slice Ad1 aDef.f8.length cd1), rfl, ?_⟩
          replace HL := Aside0.mk (HL.out.below hb)
          refine hK.out _ _ (HL.out.hS HE.out) (fun hHeld => ?_)
          clear hK K hb ho
          refine zn 71 ?_
          obtain ⟨v2, hv2, e7⟩ := one_some X aDef HFN.out.len
          obtain ⟨K7, e7⟩ := e7.rounds
          refine zo0 4 72 (fun K hK => ?_)
          refine zg Tryz.func16 #[asT X (.slice Av X.f8.length cv), asT aDef (.slice Ad1 aDef.f8.length cd1)] ?_
          refine (r18_One.calls K7 _ _ _ _ _ _ _ _ _ _ _ Av cv X.f8 _ _ _ _ _ _ _ _ _ _ _ Ad1 cd1 aDef.f8 v2 _ HL.out.svc HL.out.cap ⟨rfl, by decide, fun h => absurd h (by decide)⟩ (Nat.zero_le _) e7).mono ?_
          rintro e V5 ⟨rfl, hb⟩
          refine ⟨.bool v2, rfl, ?_⟩
          replace HL := Aside0.mk (HL.out.below hb)
          refine hK.out _ _ (HL.out.hS HE.out) (fun hHeld => ?_)
          clear hK K hb
          refine zn 72 ?_
          clear e7
          cases v2
          · clear hv2
            refine zp0 5 73 ?_; refine zp0 6 74 ?_
            refine zu0 7 75 ?_; refine zu0 8 76 ?_; refine zu0 9 77 ?_; refine zu0 10 78 ?_; refine zu0 11 79 ?_; refine zu0 12 80 ?_; refine zu0 13 81 ?_
            refine zp0 14 82 ?_
            refine zd0 ?_
            clear hHeld
            have hi2 : i < n := HII.out
            go_wp2
            go_roundg (n - i)
            case measure => have := HI.out.1; have := HII.out; omega
            case rel => exact ⟨i + 1, true, by (have := HII.out; go_num), rfl, HI1, ⟨fun _ _ _ _ _ => rfl⟩, HL⟩
          · have HAD := Aside0.mk (HFN.out.dflt (hv2.1 rfl) HAL.out HIN.out)
            clear hv2
            refine zp0 5 73 ?_; refine zp0 6 74 ?_; refine zp0 7 75 ?_; refine zp0 8 76 ?_; refine zp0 9 77 ?_
            refine zt0 10 78 hHeld ?_
            refine zo0 11 79 (fun K hK => ?_)
            refine zg Tryz.func17 #[] ?_
            refine (asset_Default.calls _ _ _ _ _ _ _ _ _ _ _ _ _ rfl).mono ?_
            rintro e V6 ⟨v0, rfl, ho, hb⟩
            obtain ⟨Ad2, cd2, hv0⟩ := Kd.R_slice ho
            subst hv0
            refine ⟨asT aDef (.slice Ad2 aDef.f8.length cd2), rfl, ?_⟩
            replace HL := Aside0.mk (HL.out.below hb)
            refine hK.out _ _ (HL.out.hS HE.out) (fun hHeld => ?_)
            clear hK K hb ho
            refine zn 79 ?_
            obtain ⟨v3, hv3, e8⟩ := one_some a aDef HA8.out
            obtain ⟨K8, e8⟩ := e8.rounds
            obtain rfl := hv3.2 HAD.out
            clear hv3
            refine zo0 12 80 (fun K hK => ?_)
            refine zg Tryz.func16 #[asT a (.slice Ax a.f8.length cx), asT aDef (.slice Ad2 aDef.f8.length cd2)] ?_
            refine (r18_One.calls K8 _ _ _ _ _ _ _ _ _ _ _ Ax cx a.f8 _ _ _ _ _ _ _ _ _ _ _ Ad2 cd2 aDef.f8 true _ (Kd.C_below HKC.out HL.out.bel) HKL.out ⟨rfl, by decide, fun h => absurd h (by decide)⟩ (Nat.zero_le _) e8).mono ?_
            rintro e V7 ⟨rfl, hb⟩
            refine ⟨.bool true, rfl, ?_⟩
            replace HL := Aside0.mk (HL.out.below hb)
            refine hK.out _ _ (HL.out.hS HE.out) (fun hHeld => ?_)
            clear hK K hb
            refine zn 80 ?_
            clear e8
            refine zp0 13 81 ?_; refine zp0 14 82 ?_
            refine zd0 ?_
            clear hHeld
            have hi2 : i < n := HII.out
            go_wp2
            go_roundg (n - i)
            case measure => have := HI.out.1; have := HII.out; omega
            case rel => exact ⟨i + 1, true, by (have := HII.out; go_num), rfl, HI1, ⟨fun _ _ _ _ _ => rfl⟩, HL⟩
    · have b1' : decide ((i : Int) < (n : Int)) = false := decide_eq_false (by omega)
      have b2' : decide (i < n) = false := decide_eq_false hi
      have HIE : Aside0 (i = n) := ⟨by have := HI.out.2; omega⟩
      have HLA : Aside0 (fd = false → X = aDef) := ⟨HFN.out.last (fun j hj hij hxj => HFD.out j hj (by have := HIE.out; have := HN.out; omega) hij hxj)⟩
      clear hi
      go_upto_region 18 with (fail)
      cases fd
      · refine start_ (n := 7) (S := fun w' => lgX w' gx X Av cv) (ds := []) #[false, false, false, false, false, false, false] (by kernel_rfl) rfl rfl ((HL.out.below (below_drew (Below.refl _ _))).hX) (fun hHeld => ?_)
        replace HL := Aside0.mk (HL.out.below (below_drew (Below.refl _ _)))
        generalize World.drew _ = V1 at HL hHeld ⊢
        refine zp0 0 83 ?_; refine zp0 1 84 ?_
        refine zt0 2 85 hHeld ?_
        refine zo0 3 86 (fun K hK => ?_)
        refine zg Tryz.func17 #[] ?_
        refine (asset_Default.calls _ _ _ _ _ _ _ _ _ _ _ _ _ rfl).mono ?_
        rintro e V4 ⟨v0, rfl, ho, hb⟩
        obtain ⟨Ad1, cd1, hv0⟩ := Kd.R_slice ho
        subst hv0
        refine ⟨asT aDef (.slice Ad1 aDef.f8.length cd1), rfl, ?_⟩
        replace HL := Aside0.mk (HL.out.below hb)
        refine hK.out _ _ (HL.out.hX) (fun hHeld => ?_)
        clear hK K hb ho
        refine zn 86 ?_
        obtain ⟨v2, hv2, e7⟩ := one_some X aDef HFN.out.len
        obtain ⟨K7, e7⟩ := e7.rounds
        obtain rfl := hv2.2 (HLA.out rfl)
        clear hv2
        refine zo0 4 87 (fun K hK => ?_)
        refine zg Tryz.func16 #[asT X (.slice Av X.f8.length cv), asT aDef (.slice Ad1 aDef.f8.length cd1)] ?_
        refine (r18_One.calls K7 _ _ _ _ _ _ _ _ _ _ _ Av cv X.f8 _ _ _ _ _ _ _ _ _ _ _ Ad1 cd1 aDef.f8 true _ HL.out.svc HL.out.cap ⟨rfl, by decide, fun h => absurd h (by decide)⟩ (Nat.zero_le _) e7).mono ?_
        rintro e V5 ⟨rfl, hb⟩
        refine ⟨.bool true, rfl, ?_⟩
        replace HL := Aside0.mk (HL.out.below hb)
        refine hK.out _ _ (HL.out.hX) (fun hHeld => ?_)
        clear hK K hb
        refine zn 87 ?_
        clear e7
        refine zp0 5 88 ?_; refine zp0 6 4 ?_
        refine zd0 ?_
        go_wp2
        go_ret
        exact ⟨rfl, HL.out.bel⟩
      · refine start_ (n := 7) (S := fun w' => True) (ds := []) #[false, false, false, false, false, false, false] (by kernel_rfl) rfl rfl (trivial) (fun hHeld => ?_)
        replace HL := Aside0.mk (HL.out.below (below_drew (Below.refl _ _)))
        generalize World.drew _ = V1 at HL hHeld ⊢
        refine zp0 0 83 ?_; refine zp0 1 84 ?_
        refine zu0 2 85 ?_; refine zu0 3 86 ?_; refine zu0 4 87 ?_
        refine zp0 5 88 ?_; refine zp0 6 4 ?_
        refine zd0 ?_
        go_wp2
        go_ret
        exact ⟨rfl, HL.out.bel⟩
end Go.Proofs.YtnphnhkinjppjaaGreatDoor.Q
end

section
namespace Go.Proofs.YtnphnhkinjppjaaGreatDoor.Pure
open Go.RowKit Go.Proofs.YtnphnhkinjppjaaGreatDoor.Q Go.Proofs.YtnphnhkinjppjaaGreatDoorW.PrintWords Go.Proofs.YtnphnhkinjppjaaGreatDoorW.PrintLast
theorem AssetLongest : ∀ (l0 : List (S36)) (x1 : S31), l0.length ≤ maxLen → (∀ x ∈ l0, q36 x) → q31 x1 → ∃ k, w18_AssetLongest.f k l0 x1.f0 x1.f1 x1.f2 = some true := by
  intro l b _ hq hb
  refine ⟨0, if_pos ?_⟩
  rw [Bool.and_eq_true, List.all_eq_true]
  exact ⟨fun x hx => awB_iff.2 (aw_of (hq x hx).2.1.1), awB_iff.2 (aw_of hb)⟩
end Go.Proofs.YtnphnhkinjppjaaGreatDoor.Pure
end

section
set_option maxHeartbeats 8000000
set_option maxRecDepth 100000
namespace Go.Proofs.YtnphnhkinjppjaaGreatDoor.Q
open Go.RowKit
theorem returns_laid {H : Type} {enc : TypeId × Value → H} {a : Assume} {C : Checked} {os : Os} {f : FuncId} {fn : Func} {s : ChangeSpec} {conds : List PathCond} {apart fresh handsOn again : Bool} {X : World → Array Value → Prop}
    (hX : ∀ (w w' : World) (args : Array Value), w.heap = w'.heap → X w args → X w' args)
    (own : ownKnob C.prog.godebug = none) (started : os.Started) (noInit : C.prog.inits.idxOf? f = none) (hfn : C.prog.funcs[f]? = some fn)
    (witness : ∃ (w : World) (tape : Tape) (i : Input), w.os = os ∧ (w.forCall tape i).Shaped C.prog ∧ i.vars = [] ∧ Input.okWide C.prog (w.forCall tape i) .any w.heap.size f i ∧
      ((s.pre enc C.prog fn conds apart (w.forCall tape i).memory i.args ∧ X (w.forCall tape i).memory i.args) ∧ sizedMet enc C.prog fn (OpenSpec.ofChange s) apart (w.forCall tape i).memory i.args) ∧ a.holds C.prog (lone (Frame.enter C.prog f i.args .normal) [] (w.forCall tape i)))
    (contract : ∀ (W : World) (base : Nat) (args : Array Value) (ds gs : List (DataW H)) (before : List MemPlace),
      (∀ (j : Nat) t v, fn.params[j]? = some t → args[j]? = some v → Value.okWide C.prog W .any base t v) →
      DataW.Whole enc C.prog fn.params.toList s.vars apart W args.toList ds gs before →
      conds.all (PathCond.test C.prog ⟨fn.params.toList, ds, s.plain.varTypes C.prog, gs⟩) = true →
      (DataW.weightsEach C.prog (fn.params.toList ++ s.plain.varTypes C.prog) (ds ++ gs)).all (· ≤ reachBytes) = true → X W args → W.ShapedOpen C.prog →
      a.holds C.prog (lone (Frame.enter C.prog f args .normal) [] W) →
      Calls C.prog f args W fun e W' => ∃ v, e = .returned v ∧ s.post enc C.prog fn apart fresh handsOn again W args v W') :
    ReturnsInHanded a C os f .any (fun w args => (s.pre enc C.prog fn conds apart w args ∧ X w args) ∧ sizedMet enc C.prog fn (OpenSpec.ofChange s) apart w args) (s.post enc C.prog fn apart fresh handsOn again) := by
  refine returnsInHanded_of_calls own started noInit witness ?_
  intro w tape i _ hsh _ hok hpre hholds
  obtain ⟨_, _, _, fn', hfn', _, _, _, _, hval⟩ := hok
  have e : fn' = fn := Option.some.inj (hfn'.symm.trans hfn)
  subst e
  obtain ⟨⟨⟨ds, gs, before, hw, hc⟩, hx⟩, hz⟩ := hpre
  have hw' := DataW.Whole.of_heap (w' := w.forCall tape i) (by rfl) hw
  refine (contract (w.forCall tape i) w.heap.size i.args ds gs before hval hw' hc (hz.weights hw) (hX _ _ _ (by rfl) hx) hsh hholds).mono fun e W' ⟨v, he, hp⟩ => ?_
  subst he
  exact ChangeSpec.post_blind hp
theorem laidVars_at {P : Program} {W : World} : ∀ {laid : List (String × DataW Unit)} {ps : List MemPlace}, DataW.LaidVars P W laid ps → ∀ (i : Nat) (n : String) (d : DataW Unit), laid[i]? = some (n, d) →
    ∃ g t cs fuel p, P.globalNamed n = some g ∧ (P.globals[g]?).map (·.type) = some t ∧ W.var? P n = some cs ∧ DataW.trod (fun _ => ()) P W 0 (fun _ => true) false fuel t cs.toList = some (d, p)
  | [], _, _, i, _, _, h => by simp at h
  | (m, c) :: r, ps, h, i, n, d, hi => by
    obtain ⟨g, t, cs, fuel, p, q, h1, h2, h3, h4, h5, _⟩ := h
    cases i with
    | zero =>
      simp only [List.getElem?_cons_zero, Option.some.injEq, Prod.mk.injEq] at hi
      obtain ⟨rfl, rfl⟩ := hi
      exact ⟨g, t, cs, fuel, p, h1, h2, h3, h4⟩
    | succ j => exact laidVars_at h5 j n d (by simpa using hi)
theorem tabIs_at {P : Program} {W : World} {laid : List (String × DataW Unit)} {name : String} {k : IntKind} {zs : List Int} {g : Nat} {t e : TypeId} {n : Nat} (i : Nat) (hi : laid[i]? = some (name, Lib.tabData k zs))
    (hg : P.globalNamed name = some g) (hty : (P.globals[g]?).map (·.type) = some t) (ht : P.underlying t = some (.array n e)) (he : P.underlying e = some (.int k)) (hce : P.cellsOf e = 1) (hct : P.cellsOf t = n)
    (h : laidMet P laid W) : Lib.TabIs P W name k zs := by
  obtain ⟨ps, h, _⟩ := h
  obtain ⟨g', t', cs, fuel, p, hg', ht', hvar, hd⟩ := laidVars_at h i _ _ hi
  obtain rfl := Option.some.inj (hg.symm.trans hg')
  obtain rfl := Option.some.inj (hty.symm.trans ht')
  unfold Lib.TabIs
  rw [hvar, ← Lib.cells_of_tab ht he hce hct hd]
def laidL : List (String × DataW Unit) := [("math/bits.deBruijn32tab", Rows.laid_math_bits_deBruijn32tab), ("math/bits.deBruijn64tab", Rows.laid_math_bits_deBruijn64tab), ("internal/strconv.uint64pow10", Rows.laid_internal_strconv_uint64pow10), ("unicode/utf8.acceptRanges", Rows.laid_unicode_utf8_acceptRanges), ("unicode/utf8.first", Rows.laid_unicode_utf8_first)]
theorem wok_of {W : World} (h : laidMetH Tryz.prog laidL W) (hs : W.ShapedOpen Tryz.prog) : WOK W := by
  rw [MakeChecks.laidMetH_plain _ _ _ (by kernel_rfl)] at h
  refine ⟨?_, ?_, ?_⟩
  · exact cell_of_shapedOpen_int (t := 3) (zero := #[.int .i64 0]) hs (by decide +kernel) (by kernel_rfl) (by kernel_rfl) (by kernel_rfl) (by kernel_rfl) Tryz.underlying3
  · exact tabIs_at (g := 0) (n := 20) 2 (by rfl) (by kernel_rfl) (t := 164) (by kernel_rfl) (by kernel_rfl) (e := 29) Tryz.underlying29 (by kernel_rfl) (by kernel_rfl) h
  · have hb : Lib.TabIs Tryz.prog W "math/bits.deBruijn64tab" .u8 (Lib.deBruijn64tab.map Int.ofNat) := tabIs_at (g := 3) (n := 64) 1 (by rfl) (by kernel_rfl) (t := 186) (by kernel_rfl) (by kernel_rfl) (e := 5) Tryz.underlying5 (by kernel_rfl) (by kernel_rfl) h
    intro j hj
    have h2 := hb.cell (g := 3) (by kernel_rfl) j (by rw [List.length_map]; exact hj)
    rw [h2, List.getD, List.getD, List.getElem?_map, List.getElem?_eq_getElem hj]
    rfl
theorem laid_world (os : Os) (args : Array Value) : laidMetH Tryz.prog laidL ((World.laidAll Tryz.prog os laidL).forCall (fun _ _ => 0) ⟨#[], args, []⟩).memory := by
  rw [MakeChecks.laidMetH_plain _ _ _ (by kernel_rfl)]
  exact laidMet_laidAll _ (by kernel_rfl) (by kernel_rfl)
end Go.Proofs.YtnphnhkinjppjaaGreatDoor.Q
end

section
set_option maxHeartbeats 8000000
set_option maxRecDepth 100000
namespace Go.Proofs.YtnphnhkinjppjaaGreatDoor.assetLongest
open Go.ChangeShapes Go.WideShapes Go.ChangeAt Go.RowKit Go.Proofs.YtnphnhkinjppjaaGreatDoorW.PrintWords Go.Proofs.YtnphnhkinjppjaaGreatDoor.Read Go.Proofs.YtnphnhkinjppjaaGreatDoor.Q
open Go.ChangeMaps (open_string shut_string)
theorem own : ownKnob Tryz.prog.godebug = none := by kernel_rfl
theorem laidOut : laidOutB Tryz.prog = true := by kernel_rfl
theorem lifted (os : Os) (started : os.Started) (H : Type) (enc : TypeId × Value → H) :
    ReturnsInHanded {} Tryz.checked os 9 .any (fun w args => (Rows.assetLongestSpec.pre enc Tryz.prog Tryz.f9 Rows.assetLongestRow.domain false w args ∧ laidMetH Tryz.prog laidL w) ∧ sizedMet enc Tryz.prog Tryz.f9 (OpenSpec.ofChange Rows.assetLongestSpec) false w args) (Rows.assetLongestSpec.post enc Tryz.prog Tryz.f9 false true false false) := by
  refine returns_laid (C := Tryz.checked) (X := (fun w _ => laidMetH Tryz.prog laidL w)) (fun _ _ _ hh h => h.of_heap hh) own started (by kernel_rfl) Tryz.func9
    (ChangeSpec.witness_shaped (enc := enc) (C := Tryz.checked) (os := os) (X := (fun w _ => laidMetH Tryz.prog laidL w)) false (World.laidAll Tryz.prog os laidL) #[.slice none 0 0, .agg #[.bool false, .int .u64 0, .int .u64 0]] 8 (World.laidAll_os _ _ _)
      (World.shaped_of_ZipB (by kernel_rfl) (by kernel_rfl)) (by kernel_rfl) (by kernel_rfl) (by kernel_rfl) (laid_world os _)) ?_
  intro W base args ds gs before hval0 hW hcnd hsz0 hL hsh _
  have hWok := wok_of hL hsh
  have hsz : (DataW.weightsEach Tryz.prog (Tryz.f9.params.toList ++ Rows.assetLongestSpec.plain.varTypes Tryz.prog) (ds ++ gs)).all (· ≤ reachBytes) = true := hsz0
  have hval : ∀ (j : Nat) t v, Tryz.f9.params[j]? = some t → args[j]? = some v → Value.okWide Tryz.prog W .any base t v := hval0
  have hW' := hW
  obtain ⟨p, q, hA0, hV, rfl, hfz, hnd⟩ := hW
  have hA : DataW.TrodAll enc Tryz.prog W 0 (fun _ => true) true Tryz.f9.params.toList args.toList ds p := hA0
  rw [Tryz.params9] at hA hval hsz
  obtain ⟨v0, vs0, d0, ds0, p0, q0, hargs, rfl, rfl, h0, r0⟩ := trodAll_cons hA
  obtain ⟨v1, vs1, d1, ds1, p1, q1, rfl, rfl, rfl, h1, r1⟩ := trodAll_cons r0
  obtain ⟨rfl, rfl, rfl⟩ := trodAll_nil r1
  obtain rfl : args = #[v0, v1] := by cases args; simp_all
  obtain ⟨rfl, rfl⟩ := trodVars_none hV
  obtain ⟨a0, len0, cap0, rfl⟩ := okWide_slice Tryz.underlying22 (hval 0 22 v0 rfl rfl)
  have k0_ := h0
  have lt0 : ∀ x ∈ p0, x.block < W.heap.size := by obtain ⟨m, hm⟩ := k0_; exact DataW.trod_lt m _ _ _ hm
  obtain ⟨fuel0, hf0⟩ := h0
  obtain ⟨l0, ⟨A0, c0, hcs0, hle0, hC0⟩, hm0, hq0⟩ := (reads_slice Tryz.underlying22 (by kernel_rfl) (reads_k36 W) : Reads Tryz.prog W (Kd.slice 36 k36) _ 22) H enc fuel0 _ _ hf0
  simp [Value.cells] at hcs0
  obtain ⟨rfl, rfl, rfl⟩ := hcs0
  obtain ⟨cs1, rfl, hz1⟩ := okWide_struct Tryz.underlying31 (hval 1 31 v1 rfl rfl)
  have k1_ := h1
  have lt1 : ∀ x ∈ p1, x.block < W.heap.size := by obtain ⟨m, hm⟩ := k1_; exact DataW.trod_lt m _ _ _ hm
  obtain ⟨fuel1, hf1⟩ := h1
  obtain ⟨x1, hK1, hq1⟩ := reads_k31 W H enc fuel1 _ _ hf1
  have hcs1 := k31_open hK1
  simp only [Value.cells] at hcs1
  obtain rfl : cs1 = #[.bool x1.f0, .int .u64 x1.f1, .int .u64 x1.f2] := by rw [← Array.toList_inj]; exact hcs1
  clear hA0 hval0 hsz0 hsz
  obtain ⟨k, hk⟩ := Pure.AssetLongest l0 x1 hm0 hq0 hq1
  refine (w18_AssetLongest.calls k _ _ l0 x1.f0 x1.f1 x1.f2 true W hC0 hle0 hk hWok).mono fun e W' he => ?_
  obtain ⟨rfl, bel⟩ := he
  exact ⟨_, rfl, _, _, _, [], _, [], hW', trodAll_mk1 (shut_bool Tryz.underlying4 _), (trodAll_cons_mk (Below.trod laidOut (by kernel_rfl) (of_decide_eq_true (by kernel_rfl)) k0_ bel lt0) (trodAll_cons_mk (Below.trod laidOut (by kernel_rfl) (of_decide_eq_true (by kernel_rfl)) k1_ bel lt1) trodAll_mk0)), rfl, bel.frame _, fun h => by cases h⟩
theorem over : Rows.assetLongestRow.holds Tryz.pinned (OpenSpec.ofChange Rows.assetLongestSpec) :=
  OpenClaim.holds_of_wide 9 Tryz.f9 rfl rfl rfl rfl rfl rfl rfl ⟨rfl, rfl, rfl, rfl, rfl⟩ rfl rfl rfl rfl rfl (by kernel_rfl) Tryz.func9 (by kernel_rfl)
    (of_decide_eq_true (by kernel_rfl)) (by unfold Func.isWrapper; first | (rw [if_pos (by decide +kernel)]; kernel_rfl) | (rw [if_neg (by decide +kernel)]; exact ⟨rfl, rfl⟩))
    (fun os started H enc _ => lifted os started H enc)
theorem card : Rows.AssetLongestCardSaid :=
  Claim7.holds_tied_plain_at .later [] [.data, .data, .data, .data, .pinned] true (true, "e2fb7f09b75ce55e686a17d0d7ee68673f5cc2846f6649169a4a74c75a4abc06") false over (fun _ h => by cases h) (by kernel_rfl) (fun _ h => by cases h) assetLongest_row_tie rfl ⟨rfl, rfl⟩ (by kernel_rfl) rfl
    (fun f fn hf hfn => by
      obtain rfl : f = 9 := Option.some.inj ((show Tryz.prog.funcNamed "intrusion/intrusionlaw18.AssetLongest" = some 9 by kernel_rfl).symm.trans hf) |>.symm
      obtain rfl : fn = Tryz.f9 := (Option.some.inj (Tryz.func9.symm.trans hfn)).symm
      exact ⟨by kernel_rfl, fun j t ht => by
        rw [Tryz.params9] at ht
        have hm : t ∈ [22, 31] := by simpa using Array.mem_of_getElem? ht
        have hall : ([22, 31].all fun u => !Tryz.prog.wantsStandIn u) = true := by kernel_rfl
        exact (show Tryz.prog.wantsStandIn t = false by simpa using List.all_eq_true.1 hall t hm)⟩)
    (by kernel_rfl)
#print axioms card
end Go.Proofs.YtnphnhkinjppjaaGreatDoor.assetLongest
namespace Go.Proofs.YtnphnhkinjppjaaGreatDoor
theorem assetLongest_holds : Rows.AssetLongestCardSaid := assetLongest.card
end Go.Proofs.YtnphnhkinjppjaaGreatDoor
end
