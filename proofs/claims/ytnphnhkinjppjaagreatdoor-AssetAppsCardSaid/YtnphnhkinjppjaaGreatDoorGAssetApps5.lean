/- The law AssetApps answers true for every input and leaves its arguments as they were. No condition. (Part 5 of 5: the kit's printed words and walks, hand-made contracts and plain laws, joined in build order, without what the theorem does not reach.) -/
import Derived.Lib.ItoaLen
import Derived.ArgAppend
import Derived.Deep.Slices
import Derived.ChangeArms
import Derived.WideShapes
import Derived.DataElems
import Derived.Test.YtnphnhkinjppjaaGreatDoorRows
import Derived.ProofKit
import Derived.OpenShut
import Derived.LaidMore
import Derived.Lay
import Derived.SevenTiedAt
import Derived.Stop.Joined
import Derived.Lib.LaidTab
import Derived.Shelf.Vars
import Derived.HandedShaped
import Derived.WalkKit
import Derived.ShutString
import Derived.ChangeOld
import Derived.Below
import Derived.SizedLaws
import Derived.Carry
import Derived.Test.YtnphnhkinjppjaaGreatDoorTie
import Derived.Test.YtnphnhkinjppjaaGreatDoorCards
import Derived.Test.YtnphnhkinjppjaaGreatDoorGAssetApps4
section
set_option linter.unusedVariables false
set_option linter.unusedSimpArgs false
namespace Go.Proofs.YtnphnhkinjppjaaGreatDoor.Q
open Go.RowKit Go.Proofs.YtnphnhkinjppjaaGreatDoorW.PrintWords Go.Proofs.YtnphnhkinjppjaaGreatDoorW.PrintLast Go.Proofs.YtnphnhkinjppjaaGreatDoorW.PrintMore
def asset_Parse.l0 : Nat → List (S84) → List S36 → Int → Int → Int → Option (List S36 × Int × Int)
  | 0, _, _, _, _, _ => none
  | k + 1, L, out, i, e, a =>
    if e = 0 then
      if (tokAt L i).f0 = 0 then some (out, e, a)
      else (asset_statement.f k L i e a).bind fun r => if out.length < 1000000 then asset_Parse.l0 k L (out ++ [r.1]) r.2.1 r.2.2.1 r.2.2.2 else none
    else some (out, e, a)
def asset_Parse.f (k : Nat) (s : ByteArray) : Option (List S36 × Int × Int) :=
  (lexer_Scan.f k s).bind fun r =>
    if r.2.1 = 0 then
      (if 0 < r.1.length then (if r.1.length ≤ 1000000 then
        (asset_Parse.l0 k r.1 [] 0 0 0).bind fun q => if q.2.1 = 0 then (asset_Check.f k q.1).bind fun c => (if c = 0 then some (q.1, 0, 0) else some ([], c, 0)) else some ([], q.2.1, q.2.2)
      else none) else none)
    else some ([], r.2.1, r.2.2)
theorem asset_parser_number.mono : ∀ (L : List (S84)) (i e a : Int) (k : Nat), LeO (asset_parser_number.f k L i e a) (asset_parser_number.f (k + 1) L i e a) := fun L i e a k => LeO.bind (lexer_Number.mono _ _) fun r => LeO.refl _
theorem asset_parser_choice.mono : ∀ (L : List (S84)) (i e a : Int) (l : List ByteArray) (k : Nat), LeO (asset_parser_choice.f k L i e a l) (asset_parser_choice.f (k + 1) L i e a l) := fun L i e a l k => LeO.bind (slices_Index_string.mono _ _ _) fun r => LeO.refl _
theorem optOne.mono (k : Nat) (L : List (S84)) (A : S36) (n i e a : Int) : LeO (optOne k L A n i e a) (optOne (k + 1) L A n i e a) := by
  unfold optOne
  exact LeO.ite (LeO.bind (asset_parser_choice.mono _ _ _ _ _ _) fun r => LeO.refl _) (LeO.ite (LeO.bind (asset_parser_choice.mono _ _ _ _ _ _) fun r => LeO.refl _) (LeO.ite (LeO.bind (asset_parser_number.mono _ _ _ _ _) fun r => LeO.refl _) (LeO.ite (LeO.bind (asset_parser_number.mono _ _ _ _ _) fun r => LeO.refl _) (LeO.ite (LeO.refl _) (LeO.ite (LeO.bind (asset_parser_number.mono _ _ _ _ _) fun r => LeO.refl _) (LeO.bind (asset_parser_choice.mono _ _ _ _ _ _) fun r => LeO.bind (asset_parser_number.mono _ _ _ _ _) fun r => LeO.bind (asset_parser_choice.mono _ _ _ _ _ _) fun r => LeO.refl _))))))
theorem optLoop.mono : ∀ (k : Nat) (L : List (S84)) (least : Int) (A : S36) (i e a : Int), LeO (optLoop k L least A i e a) (optLoop (k + 1) L least A i e a) := by
  intro k
  induction k with
  | zero => intro L least A i e a; exact LeO.none _
  | succ k ih =>
    intro L least A i e a
    rw [optLoop, optLoop]
    exact LeO.ite (LeO.ite (LeO.refl _) (LeO.bind (slices_Index_string.mono _ _ _) fun n => LeO.ite (LeO.ite (LeO.refl _) (LeO.ite (LeO.refl _) (LeO.ite (LeO.bind (optOne.mono _ _ _ _ _ _ _) fun r => ih _ _ _ _ _ _) (LeO.refl _)))) (LeO.refl _))) (LeO.refl _)
theorem preOne.mono (k : Nat) (t : S84) (e a : Int) : LeO (preOne k t e a) (preOne (k + 1) t e a) := LeO.ite (LeO.bind (address_ParsePrefix.mono _ _) fun r => LeO.refl _) (LeO.refl _)
theorem asset_statement.mono (k : Nat) (L : List (S84)) (i e a : Int) : LeO (asset_statement.f k L i e a) (asset_statement.f (k + 1) L i e a) := LeO.bind (preOne.mono _ _ _ _) fun x => optLoop.mono _ _ _ _ _ _ _
theorem asset_Parse.mono_l : ∀ (k : Nat) (L : List (S84)) (out : List S36) (i e a : Int), LeO (asset_Parse.l0 k L out i e a) (asset_Parse.l0 (k + 1) L out i e a) := by
  intro k
  induction k with
  | zero => intro L out i e a; exact LeO.none _
  | succ k ih =>
    intro L out i e a
    rw [asset_Parse.l0, asset_Parse.l0]
    exact LeO.ite (LeO.ite (LeO.refl _) (LeO.bind (asset_statement.mono _ _ _ _ _) fun r => LeO.ite (ih _ _ _ _ _) (LeO.refl _))) (LeO.refl _)
theorem asset_Parse.mono : ∀ s k, LeO (asset_Parse.f k s) (asset_Parse.f (k + 1) s) := fun s k => LeO.bind (lexer_Scan.mono _ _) fun r => LeO.ite (LeO.ite (LeO.ite (LeO.bind (asset_Parse.mono_l _ _ _ _ _ _) fun q => LeO.ite (LeO.bind (asset_Check.mono _ _) fun c => LeO.refl _) (LeO.refl _)) (LeO.refl _)) (LeO.refl _)) (LeO.refl _)
theorem PosIn.stmt {k : Nat} {L : List (S84)} {i e a : Int} {A : S36} {i' e' a' : Int} (h : PosIn L i) (hf : asset_statement.f k L i e a = some (A, i', e', a')) : PosIn L i' := by
  have hone : ∀ (k : Nat) (A : S36) (n i e a : Int) (r : S36 × Int × Int × Int), PosIn L i → optOne k L A n i e a = some r → PosIn L r.2.1 := by
    intro k A n i e a r hi hr
    unfold optOne at hr
    repeat' split at hr
    all_goals first
      | (obtain ⟨⟨m, x⟩, h1, h2⟩ := Option.bind_eq_some_iff.1 hr
         have h2 := Option.some.inj h2
         subst h2
         first | exact hi.choice h1 | exact hi.number h1)
      | (have h2 := Option.some.inj hr; subst h2; exact hi)
      | (obtain ⟨⟨m1, x1⟩, h1, h2⟩ := Option.bind_eq_some_iff.1 hr
         obtain ⟨⟨m2, x2⟩, h3, h4⟩ := Option.bind_eq_some_iff.1 h2
         obtain ⟨⟨m3, x3⟩, h5, h6⟩ := Option.bind_eq_some_iff.1 h4
         first
           | (have h6 := Option.some.inj h6
              subst h6
              exact ((hi.choice h1).number h3).choice h5)
           | cases h6
           | (split at h6
              · have h6 := Option.some.inj h6
                subst h6
                exact ((hi.choice h1).number h3).choice h5
              · cases h6))
  have hloop : ∀ (k : Nat) (least : Int) (A : S36) (i e a : Int) (r : S36 × Int × Int × Int), PosIn L i → optLoop k L least A i e a = some r → PosIn L r.2.1 := by
    intro k
    induction k with
    | zero => intro least A i e a r _ hr; simp [optLoop] at hr
    | succ k ih =>
      intro least A i e a r hi hr
      rw [optLoop] at hr
      split at hr
      · split at hr
        · have hr := Option.some.inj hr
          subst hr
          show PosIn L (isNx L i 4 ⟨#[59]⟩)
          unfold isNx
          split <;> first | exact hi.nxt | exact hi
        · obtain ⟨n, hn, hr⟩ := Option.bind_eq_some_iff.1 hr
          split at hr
          · split at hr
            · have hr := Option.some.inj hr; subst hr; exact hi.word
            · split at hr
              · have hr := Option.some.inj hr; subst hr; exact hi.word
              · split at hr
                · obtain ⟨q, hq, hr⟩ := Option.bind_eq_some_iff.1 hr
                  exact ih _ _ _ _ _ _ (hone _ _ _ _ _ _ _ hi.word hq) hr
                · cases hr
          · have hr := Option.some.inj hr; subst hr; exact hi.word
      · have hr := Option.some.inj hr; subst hr; exact hi
  unfold asset_statement.f at hf
  obtain ⟨x, hx, hf⟩ := Option.bind_eq_some_iff.1 hf
  refine hloop _ _ _ _ _ _ _ ?_ hf
  have h1 : PosIn L (hostOne L i e a).1 := by unfold hostOne; split <;> exact h.word
  exact (h1.word).word
structure ParI (k gg : Nat) (L : List (S84)) (out : List S36) (i e a : Int) (q : List S36 × Int × Int) : Prop where
  val : asset_Parse.l0 gg L out i e a = some q
  pos : PosIn L i
structure ParW (w1 wr : World) (p c : Nat) (L : List (S84)) (out : List S36) (v : Value) (i e a : Int) : Prop where
  par : IsPar w1 wr p c L i e a
  bel : Below w1.heap.size w1 wr
  out : Kd.R k36 36 wr w1.heap.size (fun k => k ≠ p ∧ k ≠ c) v out
theorem ParW.below {w1 wr w2 : World} {p c : Nat} {L : List (S84)} {out : List S36} {v : Value} {i e a : Int} (h : ParW w1 wr p c L out v i e a) (hb : Below wr.heap.size wr w2) : ParW w1 w2 p c L out v i e a :=
  ⟨h.par.below hb, below_then h.bel h.bel.size hb, Kd.R_below h.out hb⟩
theorem ParI.cases {k gg : Nat} {L : List (S84)} {out : List S36} {i e a : Int} {q : List S36 × Int × Int} (h : ParI k gg L out i e a q) : ∃ g, gg = g + 1 ∧ ((¬ e = 0 ∧ (out, e, a) = q) ∨ (e = 0 ∧ (((tokAt L i).f0 = 0 ∧ (out, e, a) = q) ∨ (¬ (tokAt L i).f0 = 0 ∧ out.length < 1000000 ∧ ∃ A i' e' a', asset_statement.f g L i e a = some (A, i', e', a') ∧ ParI k g L (out ++ [A]) i' e' a' q)))) := by
  have hv := h.val
  cases gg with
  | zero => simp [asset_Parse.l0] at hv
  | succ g =>
    refine ⟨g, rfl, ?_⟩
    rw [asset_Parse.l0] at hv
    split at hv
    · rename_i h0
      refine .inr ⟨h0, ?_⟩
      split at hv
      · rename_i h1
        exact .inl ⟨h1, Option.some.inj hv⟩
      · rename_i h1
        obtain ⟨⟨A, i', e', a'⟩, hs, hv⟩ := Option.bind_eq_some_iff.1 hv
        split at hv
        · rename_i h2
          exact .inr ⟨h1, h2, A, i', e', a', hs, hv, h.pos.stmt hs⟩
        · cases hv
    · rename_i h0
      exact .inl ⟨h0, Option.some.inj hv⟩
theorem ParW.append {w1 w2 w3 : World} {p c : Nat} {L : List (S84)} {out : List S36} {v v1 : Value} {i e a : Int} {A : S36} (hp : IsPar w1 w2 p c L i e a) (hb : Below w1.heap.size w1 w2) (ho : Kd.R k36 36 w2 w1.heap.size (fun k => k ≠ p ∧ k ≠ c) v out)
    (hn : Kd.R k36 36 w3 w1.heap.size (fun k => k ≠ p ∧ k ≠ c) v1 (out ++ [A])) (hb3 : Below w1.heap.size w1 w3) (hg : w2.grownBy w3 v.ownBlock) : ParW w1 w3 p c L (out ++ [A]) v1 i e a := by
  have hne : ∀ (b : Nat) (cs : Array Value) (t : TypeId), w2.heap[b]? = some (.cells cs t (0, 0)) → 36 ≠ t → some b ≠ v.ownBlock := fun b cs t hb ht => Kd.R_ne ho hb ht
  obtain ⟨h1, h2, h3⟩ := hp
  obtain ⟨A0, c0, h4, h5, h6⟩ := h3
  exact ⟨⟨blk_grown h1 hg (hne _ _ _ h1 (by decide)), h2, A0, c0, blk_grown h4 hg (hne _ _ _ h4 (by decide)), h5, h6⟩, hb3, hn⟩
theorem infoA : (Tryz.prog.info? 36).map (fun i => (i.zero, i.size, i.bytes)) = some (some (.agg (assetCells z36 (.slice none 0 0))), 12, 120) := by kernel_rfl
set_option maxHeartbeats 8000000 in
set_option maxRecDepth 100000 in
theorem parse_ok (k : Nat) (s : ByteArray) (L : List (S84)) (at0 : Int) (q : List S36 × Int × Int) (r1 : List S36) (r2 r3 : Int) (w : World) (hs : lexer_Scan.f k s = some (L, 0, at0)) (h0 : 0 < L.length) (h1 : L.length ≤ 1000000) (hq : asset_Parse.l0 k L [] 0 0 0 = some q)
    (hr : (if q.2.1 = 0 then (asset_Check.f k q.1).bind fun c => (if c = 0 then some (q.1, (0 : Int), (0 : Int)) else some ([], c, 0)) else some ([], q.2.1, q.2.2)) = some (r1, r2, r3)) (hW : WOK w) :
    Calls Tryz.prog 21 #[.string s] w fun e w' => ∃ v0_ : Value, e = .returned (.tuple #[v0_, .int .i64 r2, .int .i64 r3]) ∧ Kd.R k36 36 w' w.heap.size (fun _ => True) v0_ r1 ∧ Below w.heap.size w w' := by
  have hu := Tryz.underlying36
  have hu2 := Tryz.underlying82
  have hfd : ∀ (t : S84) (w' : World), (Instr.field 84 (tokV t) 0).run Tryz.prog w' = .ok (.int .i64 t.f0) w' := fun _ _ => by kernel_rfl
  have HS := Aside0.mk hs
  have HL : Aside0 (L ≠ [] ∧ L.length ≤ 1000000) := ⟨List.length_pos_iff.1 h0, h1⟩
  have HQ : Aside0 (ParI k k L [] 0 0 0 q) := ⟨⟨hq, by omega, by omega, h1⟩⟩
  have HR := Aside0.mk hr
  have HW := Aside0.mk hW
  clear hs h0 h1 hq hr hW
  go_enter Tryz.func21, Tryz.ntmps21
  go_wp2_with fail
  refine (newcur_ok k s L at0 w HS.out HL.out.1 HL.out.2).mono ?_
  rintro e w2 ⟨w1, c, rfl, hc, hb1, hb2⟩
  have HB1 := Aside0.mk hb1
  have HW1 := Aside0.mk (HW.out.below hb1)
  have HP : Aside0 (IsPar w1 (w2.alloc (.cells #[.pointer (some ⟨c, 0, none⟩), .int .i64 0, .int .i64 0] 82)) w2.heap.size c L 0 0 0) := ⟨heap_alloc_new _ _, hb2.size, hc.alloc _⟩
  have HB2 := Aside0.mk (below_alloc hb2 (.cells #[.pointer (some ⟨c, 0, none⟩), .int .i64 0, .int .i64 0] 82))
  clear hc hb1 hb2
  go_upto_region 6 with (fail)
  obtain ⟨p, hpp⟩ : ∃ x, w2.heap.size = x := ⟨_, rfl⟩
  rw [hpp] at HP
  simp only [hpp]
  clear hpp
  generalize w2.alloc (.cells #[.pointer (some ⟨c, 0, none⟩), .int .i64 0, .int .i64 0] 82) = W3 at HP HB2 ⊢
  have HPW : Aside0 (ParW w1 W3 p c L [] (.slice none 0 0) 0 0 0) := ⟨HP.out, HB2.out, Kd.R_nil _ _ _ _ _⟩
  clear HP HB2
  go_loopg [9] k (fun gg v9 wr => ∃ (out : List S36) (Ao : Option Addr) (co : Nat) (i e a : Int), v9 = .slice Ao out.length co ∧ Aside0 (ParI k gg L out i e a q) ∧ Aside0 (ParW w1 wr p c L out (.slice Ao out.length co) i e a))
  case atStart => exact ⟨[], none, 0, 0, 0, 0, rfl, HQ, HPW⟩
  case round =>
    clear HQ HPW
    obtain ⟨out, Ao, co, i, e, a, rfl, HI, HPW⟩ := hrel
    obtain ⟨g, hg, hcs⟩ := HI.out.cases
    have HCS := Aside0.mk hcs
    have HPOS := Aside0.mk HI.out.pos
    clear hcs HI
    rcases HCS.out with ⟨he, hqq⟩ | ⟨he, hcs⟩
    · have HE : Aside0 ((([] : List S36), e, a) = (r1, r2, r3)) := ⟨by have h := HR.out; rw [← hqq] at h; exact Option.some.inj ((if_neg he).symm.trans h)⟩
      have b1 : (e == 0) = false := beq_eq_false_iff_ne.mpr he
      have b2 : (e != 0) = true := bne_iff_ne.mpr he
      clear he hqq hg HCS
      obtain ⟨x0, x1, x2⟩ := HPW.out.par.cells
      go_wp2
      go_quiet (fail)
      go_wp2
      go_ret3
      have hz := HE.out
      simp only [Prod.mk.injEq] at hz
      obtain ⟨rfl, rfl, rfl⟩ := hz
      exact ⟨.slice none 0 0, rfl, Kd.R_nil _ _ _ _ _, pw_below_drewN (HB1.out.trans (HPW.out.bel.mono HB1.out.size)) _⟩
    · have b1 : (e == 0) = true := beq_iff_eq.mpr he
      have b2 : (e != 0) = false := by rw [he]; rfl
      have HC2 := Aside0.mk hcs
      have HE0 := Aside0.mk he
      clear hcs he HCS
      obtain ⟨x0, x1, x2⟩ := HPW.out.par.cells
      go_wp2_with fail
      refine (peek_walk w1 wr c L i HPW.out.par.cur HPW.out.bel HPOS.out.ge HPOS.out.lt).mono ?_
      rintro e5 w5 ⟨rfl, hb⟩
      clear x0 x1 x2
      replace HPW := Aside0.mk (HPW.out.below hb)
      clear hb
      rcases HC2.out with ⟨hk, hqq⟩ | ⟨hk, hlen, A, i', e', a', hst, hI⟩
      · have b3 : ((tokAt L i).f0 != 0) = false := by rw [hk]; rfl
        have hrr := HR.out
        rw [← hqq] at hrr
        replace hrr := (if_pos HE0.out).symm.trans hrr
        obtain ⟨cc, hcc, hrr⟩ := Option.bind_eq_some_iff.1 hrr
        have HCC := Aside0.mk hcc
        have HRR := Aside0.mk hrr
        clear hk hqq hcc hrr hg HC2
        obtain ⟨x0, x1, x2⟩ := HPW.out.par.cells
        go_wp2_with fail
        refine (asset_Check.calls k Ao co out cc w5 (Kd.R_reads' HPW.out.out).2.2 (Kd.R_reads' HPW.out.out).2.1 HCC.out).mono ?_
        rintro e w6 ⟨rfl, hb⟩
        clear x0 x1 x2
        have HPW6 := Aside0.mk (HPW.out.below hb)
        clear hb
        by_cases hcc : cc = 0
        · have b9 : (cc != 0) = false := by rw [hcc]; rfl
          have HZ : Aside0 ((out, (0 : Int), (0 : Int)) = (r1, r2, r3)) := ⟨Option.some.inj ((if_pos hcc).symm.trans HRR.out)⟩
          clear hcc
          go_wp2
          go_ret3
          have hz := HZ.out
          simp only [Prod.mk.injEq] at hz
          obtain ⟨rfl, rfl, rfl⟩ := hz
          exact ⟨_, rfl, Kd.R_lower (Kd.R_mono HPW6.out.out (fun _ _ => trivial)) HB1.out.size, HB1.out.trans (HPW6.out.bel.mono HB1.out.size)⟩
        · have b9 : (cc != 0) = true := bne_iff_ne.mpr hcc
          have HZ : Aside0 ((([] : List S36), cc, (0 : Int)) = (r1, r2, r3)) := ⟨Option.some.inj ((if_neg hcc).symm.trans HRR.out)⟩
          clear hcc
          go_wp2
          go_ret3
          have hz := HZ.out
          simp only [Prod.mk.injEq] at hz
          obtain ⟨rfl, rfl, rfl⟩ := hz
          exact ⟨.slice none 0 0, rfl, Kd.R_nil _ _ _ _ _, HB1.out.trans (HPW6.out.bel.mono HB1.out.size)⟩
      · have b3 : ((tokAt L i).f0 != 0) = true := bne_iff_ne.mpr hk
        have HST := Aside0.mk hst
        have HI2 := Aside0.mk hI
        have HLEN := Aside0.mk hlen
        have HGG := Aside0.mk hg
        clear hk hst hI hlen hg HC2
        have HOLD : Aside0 ((∀ k, (Value.slice Ao out.length co).ownBlock = some k → k < w5.heap.size) ∧ p < w5.heap.size ∧ c < w5.heap.size ∧ w1.heap.size ≤ w5.heap.size) := ⟨fun k hk => ((Kd.R_bound HPW.out.out).1 k hk).2.2.1, HPW.out.par.lt, HPW.out.par.cur.lt, HPW.out.bel.size⟩
        go_wp2_with fail
        refine (statement_walk g w1 w5 p c L i e a A i' e' a' HPW.out.par HPW.out.bel HPOS.out HW1.out HST.out).mono ?_
        rintro r7 w7 ⟨v7, rfl, ho, hi, hb, hk⟩
        obtain ⟨A7, c7, hv⟩ := Kd.R_slice ho
        subst hv
        have HO7 := Aside0.mk (Kd.R_kept HPW.out.out hk (fun k hk' => by rintro (h | h); exact hk'.1 h; exact hk'.2 h))
        have HI7 := Aside0.mk hi
        have HB7 := Aside0.mk hb
        have HR7 := Aside0.mk (Kd.R_lower (Kd.R_mono (Kd.R_bound ho) (fun k hk => hk.2.1)) HOLD.out.2.2.2)
        have HS7 := Aside0.mk hk.1
        clear ho hi hb hk HPW
        go_wp2_with (at_builtin; refine Kd.R_append k36 (w0 := w1) w1.heap.size rfl (.tmp 35) (.tmp 38) 22 36 (.agg (assetCells z36 (.slice none 0 0))) 120 rfl Tryz.underlying22 infoA rfl (by decide) (by omega) (.slice Ao out.length co) out A (assetCells A (.slice A7 A.f8.length c7)).toList (fun k => k ≠ p ∧ k ≠ c) (fun k => w5.heap.size ≤ k) rfl (by go_simp) (k36_mkM _ _ _ A HR7.out) ?aP ?aF HO7.out HB7.out HB7.out.size ?aL ?_)
        case aP => exact fun k hk => ⟨⟨by have := HOLD.out.2; omega, by have := HOLD.out.2; omega⟩, fun he => by have := HOLD.out.1 k he.symm; omega⟩
        case aF => exact fun k hk => ⟨by have := HI7.out.lt; omega, by have := HI7.out.cur.lt; omega⟩
        case aL => have := HLEN.out; omega
        intro v1 w8 ho hb1 hgr hat
        obtain ⟨A8, c8, hv⟩ := Kd.R_slice ho
        subst hv
        have HZ := Aside0.mk (ParW.append HI7.out HB7.out HO7.out ho hb1 hgr)
        clear ho hb1 hgr hat
        obtain ⟨n8, hn8⟩ : ∃ x, (out ++ [A]).length = x := ⟨_, rfl⟩
        rw [hn8]
        have HN8 := Aside0.mk hn8
        clear hn8
        go_wp2
        have hg := HGG.out
        clear HGG
        subst hg
        go_roundg g
        case measure => exact Nat.lt_succ_self g
        case rel => exact ⟨out ++ [A], A8, c8, i', e', a', by rw [HN8.out], HI2, HZ⟩
set_option maxHeartbeats 4000000 in
set_option maxRecDepth 100000 in
theorem parse_bad (k : Nat) (s : ByteArray) (L : List (S84)) (e0 at0 : Int) (w : World) (hs : lexer_Scan.f k s = some (L, e0, at0)) (he : e0 ≠ 0) :
    Calls Tryz.prog 21 #[.string s] w fun e w' => e = .returned (.tuple #[.slice none 0 0, .int .i64 e0, .int .i64 at0]) ∧ Below w.heap.size w w' := by
  have HS := Aside0.mk hs
  have HE := Aside0.mk he
  have b1 : (e0 != 0) = true := bne_iff_ne.mpr he
  clear hs he
  go_enter Tryz.func21, Tryz.ntmps21
  go_wp2_with fail
  refine (newcur_bad k s L e0 at0 w HS.out HE.out).mono ?_
  rintro e w2 ⟨rfl, hb⟩
  have HB := Aside0.mk hb
  clear hb
  go_wp2
  go_ret3
  exact ⟨rfl, HB.out⟩
theorem asset_Parse.calls (k : Nat) (s : ByteArray) (r1 : List S36) (r2 r3 : Int) (w : World) (h : asset_Parse.f k s = some (r1, r2, r3)) (hW_ : WOK w) :
    Calls Tryz.prog 21 #[.string s] w fun e w' => ∃ v0_ : Value, e = .returned (.tuple #[v0_, .int .i64 r2, .int .i64 r3]) ∧ Kd.R k36 36 w' w.heap.size (fun _ => True) v0_ r1 ∧ Below w.heap.size w w' := by
  unfold asset_Parse.f at h
  obtain ⟨⟨L, e0, at0⟩, hs, h⟩ := Option.bind_eq_some_iff.1 h
  split at h
  · rename_i he
    change e0 = 0 at he
    subst he
    split at h
    · rename_i h0
      split at h
      · rename_i h1
        obtain ⟨q, hq, hr⟩ := Option.bind_eq_some_iff.1 h
        exact parse_ok k s L at0 q r1 r2 r3 w hs h0 h1 hq hr hW_
      · cases h
    · cases h
  · rename_i he
    simp only [Option.some.injEq, Prod.mk.injEq] at h
    obtain ⟨rfl, rfl, rfl⟩ := h
    refine (parse_bad k s L e0 at0 w hs he).mono ?_
    rintro e w' ⟨rfl, hb⟩
    exact ⟨_, rfl, Kd.R_nil _ _ _ _ _, hb⟩
end Go.Proofs.YtnphnhkinjppjaaGreatDoor.Q
end

section
set_option linter.unusedVariables false
set_option linter.unusedSimpArgs false
namespace Go.Proofs.YtnphnhkinjppjaaGreatDoor.Q
open Go.RowKit Go.Proofs.YtnphnhkinjppjaaGreatDoorW.PrintWords Go.Proofs.YtnphnhkinjppjaaGreatDoorW.PrintLast Go.Proofs.YtnphnhkinjppjaaGreatDoorW.PrintMore
structure TabW (w0 W : World) (p : Nat) (l : List S36) (v : Value) : Prop where
  blk : W.heap[p]? = some (.cells #[v] 93 (0, 0))
  bel : Below w0.heap.size w0 W
  ge : w0.heap.size ≤ p
  out : Kd.R k36 36 W w0.heap.size (fun k => k ≠ p) v l
theorem TabW.below {w0 W W1 : World} {p : Nat} {l : List S36} {v : Value} (h : TabW w0 W p l v) (hb : Below W.heap.size W W1) : TabW w0 W1 p l v := ⟨blk_below h.blk hb, below_then h.bel h.bel.size hb, h.ge, Kd.R_below h.out hb⟩
def asset_New.f (k : Nat) (l : List S36) : Option (Option (List S36) × Int) :=
  (asset_Check.f k l).bind fun c => if c = 0 then (if l.length ≤ 1000 ∧ (l.all fun a => decide (a.f8.length < 1000000)) = true then some (some l, 0) else none) else some (none, c)
theorem tab_get {l : List S36} {j : Nat} (h : j < l.length) : rd_T36 l (j : Int) = l[j] := by unfold rd_T36; rw [Int.toNat_natCast, List.getD_eq_getElem?_getD, List.getElem?_eq_getElem h]; rfl
theorem tab_mem {l : List S36} {j : Nat} (h : j < l.length) : rd_T36 l (j : Int) ∈ l := by rw [tab_get h]; exact List.getElem_mem h
theorem tab_take {l : List S36} {j : Nat} (h : j < l.length) : l.take (j + 1) = l.take j ++ [rd_T36 l (j : Int)] := by rw [tab_get h]; exact (List.take_append_getElem h).symm
set_option maxHeartbeats 8000000 in
set_option maxRecDepth 100000 in
theorem new_ok (k : Nat) (A : Option Addr) (c : Nat) (l : List S36) (w : World) (hC : Kd.C k36 w A l.length l) (hc : l.length ≤ c) (h : asset_Check.f k l = some 0) (hl : l.length ≤ 1000) (hs : ∀ a ∈ l, a.f8.length < 1000000) :
    Calls Tryz.prog 25 #[.slice A l.length c] w fun e w' => ∃ w1 p v, e = .returned (.tuple #[.pointer (some ⟨p, 0, none⟩), .int .i64 0]) ∧ Below w.heap.size w w1 ∧ TabW w1 w' p l v := by
  have hu := Tryz.underlying36
  have hu2 := Tryz.underlying93
  have HC := Aside0.mk hC
  have HCC := Aside0.mk hc
  have HL := Aside0.mk hl
  have HS := Aside0.mk hs
  have HCK := Aside0.mk (asset_Check.calls k A c l 0 w hC hc h)
  obtain ⟨n, hn⟩ : ∃ n, l.length = n := ⟨_, rfl⟩
  rw [hn] at HCK HL ⊢
  have HN := Aside0.mk hn
  clear hC hc h hl hs hn
  go_enter Tryz.func25, Tryz.ntmps25
  go_wp2_with fail
  refine HCK.out.mono ?_
  rintro e w2 ⟨rfl, hb2⟩
  have HB2 := Aside0.mk hb2
  clear hb2
  go_upto_region 6 with (fail)
  have HT : Aside0 (TabW w2 (w2.alloc (.cells #[.slice none 0 0] 93)) w2.heap.size (l.take 0) (.slice none 0 0)) := ⟨heap_alloc_new _ _, below_alloc (Below.refl _ _) _, Nat.le_refl _, Kd.R_nil _ _ _ _ _⟩
  obtain ⟨p, hp⟩ : ∃ x, w2.heap.size = x := ⟨_, rfl⟩
  simp only [hp] at HT ⊢
  clear hp
  change Code.wp _ _ _ _ (w2.alloc (.cells #[.slice none 0 0] 93))
  generalize w2.alloc (.cells #[.slice none 0 0] 93) = W0 at HT ⊢
  go_loopg [17] (n + 1) (fun gg v17 wr => ∃ (i : Nat) (Ao : Option Addr) (co : Nat), v17 = .int .i64 (i : Int) ∧ Aside0 (gg + i = n + 1 ∧ i ≤ n) ∧ Aside0 (TabW w2 wr p (l.take i) (.slice Ao i co)))
  case atStart => exact ⟨0, none, 0, rfl, ⟨by omega, by omega⟩, HT⟩
  case round =>
    clear HT W0
    obtain ⟨i, Ao, co, rfl, HI, HT⟩ := hrel
    have HB := Aside0.mk (below_then HB2.out HB2.out.size HT.out.bel)
    by_cases hi : i < n
    · have HII := Aside0.mk hi
      have b2 : decide ((i : Int) < (n : Int)) = true := decide_eq_true (by omega)
      have b2' : decide (i < n) = true := decide_eq_true hi
      have b3 : n ≤ 1000000 := by have := HL.out; omega
      obtain ⟨ad, Ab, cb, rfl, k0, k1, k2, k3, k4, k5, k6, k7, k8, k9, k10, k11, kl, kc⟩ := at_T36 (Kd.C_below HC.out HB.out) (i : Int) (by omega) (by rw [HN.out]; omega)
      simp only [Int.toNat_natCast] at k0 k1 k2 k3 k4 k5 k6 k7 k8 k9 k10 k11
      have HTK : Aside0 (l.take (i + 1) = l.take i ++ [rd_T36 l (i : Int)]) := ⟨tab_take (by rw [HN.out]; exact hi)⟩
      have HSM : Aside0 ((rd_T36 l (i : Int)).f8.length < 1000000) := ⟨HS.out _ (tab_mem (by rw [HN.out]; exact hi))⟩
      have HLT : Aside0 ((l.take i).length = i) := ⟨by rw [List.length_take, HN.out]; omega⟩
      obtain ⟨a, ha⟩ : ∃ a, rd_T36 l (i : Int) = a := ⟨_, rfl⟩
      rw [ha] at k0 k1 k2 k3 k4 k5 k6 k7 k8 k9 k10 k11 kl kc HTK HSM
      have HKC := Aside0.mk kc
      clear kl kc ha
      go_upto_region 8 with (fail)
      clear hi
      obtain ⟨ga, hga⟩ : ∃ x, wr.heap.size = x := ⟨_, rfl⟩
      have HA : Aside0 ((wr.alloc (.cells (asC a (.slice Ab a.f8.length cb)) 36)).heap[wr.heap.size]? = some (.cells (asC a (.slice Ab a.f8.length cb)) 36 (0, 0))) := ⟨heap_alloc_new _ _⟩
      rw [hga] at HA
      simp only [hga]
      clear hga k0 k1 k2 k3 k4 k5 k6 k7 k8 k9 k10 k11
      replace HKC := Aside0.mk (Kd.C_below HKC.out (below_alloc (Below.refl _ _) (.cells (asC a (.slice Ab a.f8.length cb)) 36)))
      replace HT := Aside0.mk (HT.out.below (below_alloc (Below.refl _ _) (.cells (asC a (.slice Ab a.f8.length cb)) 36)))
      change Code.wp _ _ _ _ (wr.alloc (.cells (asC a (.slice Ab a.f8.length cb)) 36))
      generalize wr.alloc (.cells (asC a (.slice Ab a.f8.length cb)) 36) = W1 at HA HKC HT ⊢
      obtain ⟨d0, d1, d2, d3, d4, d5, d6, d7, d8, d9, d10, d11⟩ := zc12 HA
      have q0 := zc (Aside0.mk HT.out.blk) 0
      have HOLD : Aside0 ((∀ k, (Value.slice Ao i co).ownBlock = some k → k < W1.heap.size) ∧ p < W1.heap.size ∧ w2.heap.size ≤ W1.heap.size) := ⟨fun k hk => ((Kd.R_bound HT.out.out).1 k hk).2.2.1, blk_lt HT.out.blk, HT.out.bel.size⟩
      clear d0 d1 d2 d3 d4 d5 d6 d7 d8 d9 d10 d11 q0
      refine start_ (n := 12) (S := fun w' => w'.cell? ⟨p, 0, none⟩ = some (.slice Ao i co) ∧ w'.cell? ⟨ga, 0, none⟩ = some (.string a.f0) ∧ w'.cell? ⟨ga, 1, none⟩ = some (.bool a.f1.f0.f0) ∧ w'.cell? ⟨ga, 2, none⟩ = some (.int .u64 a.f1.f0.f1) ∧ w'.cell? ⟨ga, 3, none⟩ = some (.int .u64 a.f1.f0.f2) ∧ w'.cell? ⟨ga, 4, none⟩ = some (.int .i64 a.f1.f1) ∧ w'.cell? ⟨ga, 5, none⟩ = some (.int .i64 a.f2) ∧ w'.cell? ⟨ga, 6, none⟩ = some (.int .i64 a.f3) ∧ w'.cell? ⟨ga, 7, none⟩ = some (.int .i64 a.f4) ∧ w'.cell? ⟨ga, 8, none⟩ = some (.int .i64 a.f5) ∧ w'.cell? ⟨ga, 9, none⟩ = some (.bool a.f6) ∧ w'.cell? ⟨ga, 10, none⟩ = some (.int .i64 a.f7) ∧ w'.cell? ⟨ga, 11, none⟩ = some (.slice Ab a.f8.length cb)) (ds := [8, 11]) #[false, false, false, false, false, false, false, false, false, false, false, false] (by kernel_rfl) rfl rfl ⟨zc (Aside0.mk HT.out.blk) 0, zc (HA) 0, zc (HA) 1, zc (HA) 2, zc (HA) 3, zc (HA) 4, zc (HA) 5, zc (HA) 6, zc (HA) 7, zc (HA) 8, zc (HA) 9, zc (HA) 10, zc (HA) 11⟩ (fun hHeld => ?_)
      replace HT := Aside0.mk (HT.out.below (Below.drew (Below.refl _ _)))
      replace HKC := Aside0.mk (Kd.C_below HKC.out (Below.drew (Below.refl _ _)))
      replace HA : Aside0 (W1.drew.heap[ga]? = some (.cells (asC a (.slice Ab a.f8.length cb)) 36 (0, 0))) := ⟨HA.out⟩
      replace HOLD : Aside0 ((∀ k, (Value.slice Ao i co).ownBlock = some k → k < W1.drew.heap.size) ∧ p < W1.drew.heap.size ∧ w2.heap.size ≤ W1.drew.heap.size) := ⟨HOLD.out⟩
      generalize W1.drew = W2 at HA HKC HT HOLD hHeld ⊢
      refine zp0 0 21 ?_; refine zp0 1 22 ?_; refine zp0 2 23 ?_; refine zp0 3 24 ?_; refine zt0 4 25 hHeld ?_; refine zt0 5 26 hHeld ?_; refine zo0 6 27 (fun K hK => ?_)
      refine zg Tryz.func52 #[.agg (asC a (.slice Ab a.f8.length cb))] ?_
      refine (clone_walk' a Ab cb W2 HKC.out HSM.out).mono ?_
      rintro e w7 ⟨g7, rfl, ho, hb⟩
      refine ⟨_, rfl, ?_⟩
      have HT7 := Aside0.mk (HT.out.below hb)
      have HA7 := Aside0.mk (blk_below HA.out hb)
      have HR7 := Aside0.mk (Kd.R_lower (Kd.R_mono (Kd.R_bound ho) (fun k hk => hk.2.1)) HOLD.out.2.2)
      have HS7 := Aside0.mk hb.size
      clear ho hb HT HA
      refine hK.out _ _ ⟨zc (Aside0.mk HT7.out.blk) 0, zc (HA7) 0, zc (HA7) 1, zc (HA7) 2, zc (HA7) 3, zc (HA7) 4, zc (HA7) 5, zc (HA7) 6, zc (HA7) 7, zc (HA7) 8, zc (HA7) 9, zc (HA7) 10, zc (HA7) 11⟩ (fun hHeld => ?_)
      clear hK K
      refine zn 27 ?_
      refine zo0 7 28 (fun K hK => ?_)
      refine value_ (w1 := ?_) (v := ?_) (by rfl) rfl ?_ ?_
      rotate_left 2
      · go_simp
        constructor
        · rfl
        · rfl
      refine hK.out _ _ ⟨zc (Aside0.mk (blk_alloc HT7.out.blk _)) 0, zc (Aside0.mk (blk_alloc HA7.out _)) 0, zc (Aside0.mk (blk_alloc HA7.out _)) 1, zc (Aside0.mk (blk_alloc HA7.out _)) 2, zc (Aside0.mk (blk_alloc HA7.out _)) 3, zc (Aside0.mk (blk_alloc HA7.out _)) 4, zc (Aside0.mk (blk_alloc HA7.out _)) 5, zc (Aside0.mk (blk_alloc HA7.out _)) 6, zc (Aside0.mk (blk_alloc HA7.out _)) 7, zc (Aside0.mk (blk_alloc HA7.out _)) 8, zc (Aside0.mk (blk_alloc HA7.out _)) 9, zc (Aside0.mk (blk_alloc HA7.out _)) 10, zc (Aside0.mk (blk_alloc HA7.out _)) 11⟩ (fun hHeld => ?_)
      clear hK K
      refine zn 28 ?_
      refine last_ (i := 8) (N := some 29) #[true, true, true, true, true, true, true, true, true, false, false, false] rfl rfl (by kernel_rfl) (by decide) (fun K hK => ?_)
      refine Kd.R_append_step k36 (w0 := w2) w2.heap.size (by rfl) (.tmp 25) (.tmp 28) 22 36 (.agg (assetCells z36 (.slice none 0 0))) 120 rfl Tryz.underlying22 infoA rfl (by decide) (by omega) (.slice Ao i co) (l.take i) a [.string a.f0, .bool a.f1.f0.f0, .int .u64 a.f1.f0.f1, .int .u64 a.f1.f0.f2, .int .i64 a.f1.f1, .int .i64 a.f2, .int .i64 a.f3, .int .i64 a.f4, .int .i64 a.f5, .bool a.f6, .int .i64 a.f7, .slice (some ⟨g7, 0, none⟩) a.f8.length a.f8.length] (fun k => k ≠ p) (fun k => W2.heap.size ≤ k) rfl rfl ?aM ?aP ?aF ?aO ?aB ?aS ?aL ?_
      (case aM => exact k36_mkM _ _ _ a HR7.out)
      (case aP => exact fun k hk => ⟨by have := HOLD.out.2; omega, fun he => by have := HOLD.out.1 k he.symm; omega⟩)
      (case aF => exact fun k hk => by have := HOLD.out.2.1; have := HS7.out; omega)
      (case aO => exact HT7.out.out)
      (case aB => exact HT7.out.bel)
      (case aS => exact HT7.out.bel.size)
      (case aL => have := HLT.out; have := HL.out; have := HII.out; omega)
      intro v1 w8 ho hb1 hgr hat
      obtain ⟨A8, c8, hv⟩ := Kd.R_slice ho
      subst hv
      have HB8 := Aside0.mk (blk_grown HT7.out.blk hgr (Kd.R_ne HT7.out.out HT7.out.blk (by decide)))
      have hf3 : w8.frozen? ⟨p, 0, none⟩ = false := by simp [World.frozen?, HB8.out]
      have hc3 := (blk_cell HB8.out 0)
      have HO8 := Aside0.mk ho
      have HBB8 := Aside0.mk hb1
      clear ho hb1 hgr hat
      have HN8 : Aside0 ((l.take i ++ [a]).length = i + 1) := ⟨by rw [List.length_append, HLT.out]; rfl⟩
      rw [HN8.out]
      refine hK.out _ _ ?_
      clear hK K
      refine zn 29 ?_
      refine zp0 9 30 ?_; refine zp0 10 31 ?_
      refine last_ (i := 11) (N := none) #[true, true, true, true, true, true, true, true, true, true, true, true] rfl rfl (by kernel_rfl) (by decide) (fun K hK => ?_)
      refine skip_ (w1 := ?_) (by rfl) rfl ?_ ?_
      rotate_left
      · go_simp
        rfl
      refine hK.out _ _ ?_
      clear hK K
      refine zd0 ?_
      have HTN : Aside0 (TabW w2 (w8.setCell ⟨p, 0, none⟩ (.slice A8 (i + 1) c8)) p (l.take (i + 1)) (.slice A8 (i + 1) c8)) := ⟨blk_put HB8.out 0 _ rfl, HBB8.out.setCell HT7.out.ge _, HT7.out.ge, by rw [HTK.out]; exact Kd.R_set (by have h := HO8.out; rw [HN8.out] at h; exact h) HB8.out (by decide) 0 _⟩
      have HI1 : Aside0 ((n - i) + (i + 1) = n + 1 ∧ i + 1 ≤ n) := ⟨by have := HII.out; omega, HII.out⟩
      have hi2 : i < n := HII.out
      go_wp2
      go_roundg (n - i)
      case measure => have := HI.out.1; have := HII.out; omega
      case rel => exact ⟨i + 1, A8, c8, by (have := HII.out; go_num), HI1, HTN⟩
    · have HE : Aside0 (l.take i = l) := ⟨List.take_of_length_le (by rw [HN.out]; omega)⟩
      have b2 : decide ((i : Int) < (n : Int)) = false := decide_eq_false (by omega)
      have b2' : decide (i < n) = false := decide_eq_false hi
      go_wp2
      go_ret2
      exact ⟨w2, p, _, rfl, HB2.out, by rw [HE.out] at HT; exact HT.out⟩
end Go.Proofs.YtnphnhkinjppjaaGreatDoor.Q
end

section
namespace Go.Proofs.YtnphnhkinjppjaaGreatDoor.Q
open Go.RowKit Go.Proofs.YtnphnhkinjppjaaGreatDoorW.PrintWords Go.Proofs.YtnphnhkinjppjaaGreatDoorW.PrintLast Go.Proofs.YtnphnhkinjppjaaGreatDoorW.PrintMore
attribute [local go_sem] max2_int min2_int max_two min_two max_three min_three max_four min_four
set_option linter.unusedVariables false
set_option linter.unusedSimpArgs false
def address_Contains.f (a0_0 : Bool) (a0_1 : Int) (a0_2 : Int) (a0_3 : Int) (a1_0 : Bool) (a1_1 : Int) (a1_2 : Int) : Option (Bool) := if (a0_0 != a1_0) = true then (some false) else ((address_mask.f a1_0 a1_1 a1_2 a0_3).bind fun bt265 => (if (Go.bits .andNot .u64 a1_1 bt265.1) = (Go.bits .andNot .u64 a0_1 bt265.1) then (some ((Go.bits .andNot .u64 a1_2 bt265.2) == (Go.bits .andNot .u64 a0_2 bt265.2))) else (some false)))
set_option maxHeartbeats 8000000 in
set_option maxRecDepth 100000 in
theorem address_Contains.calls (a0_0 : Bool) (a0_1 : Int) (a0_2 : Int) (a0_3 : Int) (a1_0 : Bool) (a1_1 : Int) (a1_2 : Int) (r : Bool) (w : World) (h : address_Contains.f a0_0 a0_1 a0_2 a0_3 a1_0 a1_1 a1_2 = some r) :
 Calls Tryz.prog 53 #[.agg #[.bool a0_0, .int .u64 a0_1, .int .u64 a0_2, .int .i64 a0_3], .agg #[.bool a1_0, .int .u64 a1_1, .int .u64 a1_2]] w fun e w' => e = .returned (.bool r) ∧ Below w.heap.size w w' := by
 have hu33 := Tryz.underlying33
 have hu31 := Tryz.underlying31
 have HB := Aside0.mk (Below.refl w.heap.size w)
 unfold address_Contains.f at h; have H := h
 clear h
 by_cases c3 : (a0_0 != a1_0) = true
 · rw [if_pos c3] at H
   have c3b0 : (a0_0 != a1_0) = true := c3
   (try (have c3b1 : decide (a0_0 = a1_0) = false := by first | (simpa using c3) | exact decide_eq_true (Decidable.not_not.1 (fun hn => c3 (bne_iff_ne.2 hn))) | exact beq_iff_eq.2 (Decidable.not_not.1 (fun hn => c3 (bne_iff_ne.2 hn))) | exact decide_eq_false (bne_iff_ne.1 c3) | exact beq_eq_false_iff_ne.2 (bne_iff_ne.1 c3) | exact bne_iff_ne.1 c3))
   (try (have c3b2 : (a0_0 == a1_0) = false := by first | (simpa using c3) | exact decide_eq_true (Decidable.not_not.1 (fun hn => c3 (bne_iff_ne.2 hn))) | exact beq_iff_eq.2 (Decidable.not_not.1 (fun hn => c3 (bne_iff_ne.2 hn))) | exact decide_eq_false (bne_iff_ne.1 c3) | exact beq_eq_false_iff_ne.2 (bne_iff_ne.1 c3) | exact bne_iff_ne.1 c3))
   (try (have c3b3 : ¬ (a0_0 = a1_0) := by first | (simpa using c3) | exact decide_eq_true (Decidable.not_not.1 (fun hn => c3 (bne_iff_ne.2 hn))) | exact beq_iff_eq.2 (Decidable.not_not.1 (fun hn => c3 (bne_iff_ne.2 hn))) | exact decide_eq_false (bne_iff_ne.1 c3) | exact beq_eq_false_iff_ne.2 (bne_iff_ne.1 c3) | exact bne_iff_ne.1 c3))
   clear c3
   obtain rfl := Option.some.inj H
   go_enter Tryz.func53, Tryz.ntmps53
   go_wp2_with (first | ((with_reducible refine gate_dst (N := 2) rfl ?_); refine zx 2 #[.bool a0_0, .int .u64 a0_1, .int .u64 a0_2, .int .i64 a0_3] 33 ?_; intro gb263 hg w4 hbox hb; have BK263 := Aside0.mk (hbox); have GW263 := Aside0.mk ((by rw [hg]; exact (below_size (zB HB)) : w.heap.size ≤ gb263)); have GE263 := Aside0.mk ((by rw [hg]; exact (below_size (zB HB)) : w.heap.size ≤ gb263)); replace HB := Aside0.mk (below_step (zB HB) hb); clear hb hbox hg) | ((with_reducible refine gate_dst (N := 3) rfl ?_); refine zx 3 #[.bool a1_0, .int .u64 a1_1, .int .u64 a1_2] 31 ?_; intro gb264 hg w5 hbox hb; have BK264 := Aside0.mk (hbox); have GW264 := Aside0.mk ((by rw [hg]; exact (below_size (zB HB)) : w.heap.size ≤ gb264)); have GE264 := Aside0.mk ((by rw [hg]; exact (below_size (zB HB)) : w.heap.size ≤ gb264)); replace HB := Aside0.mk (below_step (zB HB) hb); have NB263_264 := Aside0.mk ((by rw [hg]; exact Nat.ne_of_lt (blk_lt (g := gb263) (o := .cells #[.bool a0_0, .int .u64 a0_1, .int .u64 a0_2, .int .i64 a0_3] 33 (0, 0)) (zK BK263)) : gb263 ≠ gb264)); have NB264_263 := Aside0.mk ((by rw [hg]; exact Nat.ne_of_gt (blk_lt (g := gb263) (o := .cells #[.bool a0_0, .int .u64 a0_1, .int .u64 a0_2, .int .i64 a0_3] 33 (0, 0)) (zK BK263)) : gb264 ≠ gb263)); replace BK263 := Aside0.mk (blk_below (g := gb263) (o := .cells #[.bool a0_0, .int .u64 a0_1, .int .u64 a0_2, .int .i64 a0_3] 33 (0, 0)) (zK BK263) hb); clear hb hbox hg; have hnb6 := NB263_264.out; have hnc6 := NB264_263.out; obtain ⟨hcz7_0, hcz7_1, hcz7_2, hcz7_3⟩ := zc4 BK263; obtain ⟨hfz7_0, hfz7_1, hfz7_2, hfz7_3⟩ := zf4 BK263; obtain ⟨hcz8_0, hcz8_1, hcz8_2⟩ := zc3 BK264; obtain ⟨hfz8_0, hfz8_1, hfz8_2⟩ := zf3 BK264))
   go_ret
   exact ⟨by first | rfl | (simp [errW_none, errW_some] <;> rfl) | (simp [*, errW_none, errW_some] <;> rfl), by repeat (first | (with_reducible first | exact HB.out | apply below_alloc | apply pw_below_drewN | apply below_drew1 | refine below_set ?_ GE263.out | refine below_set ?_ GE264.out) | exact HB.out)⟩
 · rw [if_neg c3] at H
   have c3b0 : (a0_0 != a1_0) = false := by simpa using c3
   (try (have c3b1 : decide (a0_0 = a1_0) = true := by first | (simpa using c3) | exact decide_eq_true (Decidable.not_not.1 (fun hn => c3 (bne_iff_ne.2 hn))) | exact beq_iff_eq.2 (Decidable.not_not.1 (fun hn => c3 (bne_iff_ne.2 hn))) | exact decide_eq_false (bne_iff_ne.1 c3) | exact beq_eq_false_iff_ne.2 (bne_iff_ne.1 c3) | exact bne_iff_ne.1 c3))
   (try (have c3b2 : (a0_0 == a1_0) = true := by first | (simpa using c3) | exact decide_eq_true (Decidable.not_not.1 (fun hn => c3 (bne_iff_ne.2 hn))) | exact beq_iff_eq.2 (Decidable.not_not.1 (fun hn => c3 (bne_iff_ne.2 hn))) | exact decide_eq_false (bne_iff_ne.1 c3) | exact beq_eq_false_iff_ne.2 (bne_iff_ne.1 c3) | exact bne_iff_ne.1 c3))
   clear c3
   replace H := Option.bind_eq_some_iff.mp H
   obtain ⟨⟨t265, t266⟩, A90, H⟩ := H
   try dsimp only at H
   have A9 := Aside0.mk A90
   clear A90
   by_cases c10 : (Go.bits .andNot .u64 a1_1 t265) = (Go.bits .andNot .u64 a0_1 t265)
   · rw [if_pos c10] at H
     have c10b0 : ((Go.bits .andNot .u64 a1_1 t265) == (Go.bits .andNot .u64 a0_1 t265)) = true := beq_iff_eq.mpr c10
     have c10b1 : ((Go.bits .andNot .u64 a1_1 t265) != (Go.bits .andNot .u64 a0_1 t265)) = false := bne_eq_false_iff_eq.mpr c10
     clear c10
     obtain rfl := Option.some.inj H
     go_enter Tryz.func53, Tryz.ntmps53
     go_wp2_with (first | ((with_reducible refine gate_dst (N := 2) rfl ?_); refine zx 2 #[.bool a0_0, .int .u64 a0_1, .int .u64 a0_2, .int .i64 a0_3] 33 ?_; intro gb263 hg w11 hbox hb; have BK263 := Aside0.mk (hbox); have GW263 := Aside0.mk ((by rw [hg]; exact (below_size (zB HB)) : w.heap.size ≤ gb263)); have GE263 := Aside0.mk ((by rw [hg]; exact (below_size (zB HB)) : w.heap.size ≤ gb263)); replace HB := Aside0.mk (below_step (zB HB) hb); clear hb hbox hg) | ((with_reducible refine gate_dst (N := 3) rfl ?_); refine zx 3 #[.bool a1_0, .int .u64 a1_1, .int .u64 a1_2] 31 ?_; intro gb264 hg w12 hbox hb; have BK264 := Aside0.mk (hbox); have GW264 := Aside0.mk ((by rw [hg]; exact (below_size (zB HB)) : w.heap.size ≤ gb264)); have GE264 := Aside0.mk ((by rw [hg]; exact (below_size (zB HB)) : w.heap.size ≤ gb264)); replace HB := Aside0.mk (below_step (zB HB) hb); have NB263_264 := Aside0.mk ((by rw [hg]; exact Nat.ne_of_lt (blk_lt (g := gb263) (o := .cells #[.bool a0_0, .int .u64 a0_1, .int .u64 a0_2, .int .i64 a0_3] 33 (0, 0)) (zK BK263)) : gb263 ≠ gb264)); have NB264_263 := Aside0.mk ((by rw [hg]; exact Nat.ne_of_gt (blk_lt (g := gb263) (o := .cells #[.bool a0_0, .int .u64 a0_1, .int .u64 a0_2, .int .i64 a0_3] 33 (0, 0)) (zK BK263)) : gb264 ≠ gb263)); replace BK263 := Aside0.mk (blk_below (g := gb263) (o := .cells #[.bool a0_0, .int .u64 a0_1, .int .u64 a0_2, .int .i64 a0_3] 33 (0, 0)) (zK BK263) hb); clear hb hbox hg; have hnb13 := NB263_264.out; have hnc13 := NB264_263.out; obtain ⟨hcz14_0, hcz14_1, hcz14_2, hcz14_3⟩ := zc4 BK263; obtain ⟨hfz14_0, hfz14_1, hfz14_2, hfz14_3⟩ := zf4 BK263; obtain ⟨hcz15_0, hcz15_1, hcz15_2⟩ := zc3 BK264; obtain ⟨hfz15_0, hfz15_1, hfz15_2⟩ := zf3 BK264) | ((with_reducible refine gate_callee (f := 86) rfl ?_); refine goesL_ (some 17) rfl rfl Tryz.func86 (by kernel_rfl) rfl #[.agg #[.bool a1_0, .int .u64 a1_1, .int .u64 a1_2], .int .i64 a0_3] rfl (by (try simp only [List.map_toArray, List.map_cons, List.map_nil]); first | done | rfl | (simp only [List.length_drop, List.length_take]; rfl)) ?_; (with_reducible refine (address_mask.calls a1_0 a1_1 a1_2 a0_3 t265 t266 _ A9.out).mono ?_); rintro e w16 ⟨rfl, hb⟩; refine ⟨_, rfl, ?_⟩; replace BK263 := Aside0.mk (blk_below (g := gb263) (o := .cells #[.bool a0_0, .int .u64 a0_1, .int .u64 a0_2, .int .i64 a0_3] 33 (0, 0)) (zK BK263) hb); replace BK264 := Aside0.mk (blk_below (g := gb264) (o := .cells #[.bool a1_0, .int .u64 a1_1, .int .u64 a1_2] 31 (0, 0)) (zK BK264) hb); replace HB := Aside0.mk (below_step (zB HB) hb); (try clear hb); obtain ⟨hcz17_0, hcz17_1, hcz17_2⟩ := zc3 BK264; obtain ⟨hfz17_0, hfz17_1, hfz17_2⟩ := zf3 BK264; obtain ⟨hcz18_0, hcz18_1, hcz18_2, hcz18_3⟩ := zc4 BK263; obtain ⟨hfz18_0, hfz18_1, hfz18_2, hfz18_3⟩ := zf4 BK263))
     go_ret
     exact ⟨by first | rfl | (simp [errW_none, errW_some] <;> rfl) | (simp [*, errW_none, errW_some] <;> rfl), by repeat (first | (with_reducible first | exact HB.out | apply below_alloc | apply pw_below_drewN | apply below_drew1 | refine below_set ?_ GE263.out | refine below_set ?_ GE264.out) | exact HB.out)⟩
   · rw [if_neg c10] at H
     have c10b0 : ((Go.bits .andNot .u64 a1_1 t265) == (Go.bits .andNot .u64 a0_1 t265)) = false := beq_eq_false_iff_ne.mpr c10
     have c10b1 : ((Go.bits .andNot .u64 a1_1 t265) != (Go.bits .andNot .u64 a0_1 t265)) = true := bne_iff_ne.mpr c10
     obtain rfl := Option.some.inj H
     go_enter Tryz.func53, Tryz.ntmps53
     go_wp2_with (first | ((with_reducible refine gate_dst (N := 2) rfl ?_); refine zx 2 #[.bool a0_0, .int .u64 a0_1, .int .u64 a0_2, .int .i64 a0_3] 33 ?_; intro gb263 hg w19 hbox hb; have BK263 := Aside0.mk (hbox); have GW263 := Aside0.mk ((by rw [hg]; exact (below_size (zB HB)) : w.heap.size ≤ gb263)); have GE263 := Aside0.mk ((by rw [hg]; exact (below_size (zB HB)) : w.heap.size ≤ gb263)); replace HB := Aside0.mk (below_step (zB HB) hb); clear hb hbox hg) | ((with_reducible refine gate_dst (N := 3) rfl ?_); refine zx 3 #[.bool a1_0, .int .u64 a1_1, .int .u64 a1_2] 31 ?_; intro gb264 hg w20 hbox hb; have BK264 := Aside0.mk (hbox); have GW264 := Aside0.mk ((by rw [hg]; exact (below_size (zB HB)) : w.heap.size ≤ gb264)); have GE264 := Aside0.mk ((by rw [hg]; exact (below_size (zB HB)) : w.heap.size ≤ gb264)); replace HB := Aside0.mk (below_step (zB HB) hb); have NB263_264 := Aside0.mk ((by rw [hg]; exact Nat.ne_of_lt (blk_lt (g := gb263) (o := .cells #[.bool a0_0, .int .u64 a0_1, .int .u64 a0_2, .int .i64 a0_3] 33 (0, 0)) (zK BK263)) : gb263 ≠ gb264)); have NB264_263 := Aside0.mk ((by rw [hg]; exact Nat.ne_of_gt (blk_lt (g := gb263) (o := .cells #[.bool a0_0, .int .u64 a0_1, .int .u64 a0_2, .int .i64 a0_3] 33 (0, 0)) (zK BK263)) : gb264 ≠ gb263)); replace BK263 := Aside0.mk (blk_below (g := gb263) (o := .cells #[.bool a0_0, .int .u64 a0_1, .int .u64 a0_2, .int .i64 a0_3] 33 (0, 0)) (zK BK263) hb); clear hb hbox hg; have hnb21 := NB263_264.out; have hnc21 := NB264_263.out; obtain ⟨hcz22_0, hcz22_1, hcz22_2, hcz22_3⟩ := zc4 BK263; obtain ⟨hfz22_0, hfz22_1, hfz22_2, hfz22_3⟩ := zf4 BK263; obtain ⟨hcz23_0, hcz23_1, hcz23_2⟩ := zc3 BK264; obtain ⟨hfz23_0, hfz23_1, hfz23_2⟩ := zf3 BK264) | ((with_reducible refine gate_callee (f := 86) rfl ?_); refine goesL_ (some 17) rfl rfl Tryz.func86 (by kernel_rfl) rfl #[.agg #[.bool a1_0, .int .u64 a1_1, .int .u64 a1_2], .int .i64 a0_3] rfl (by (try simp only [List.map_toArray, List.map_cons, List.map_nil]); first | done | rfl | (simp only [List.length_drop, List.length_take]; rfl)) ?_; (with_reducible refine (address_mask.calls a1_0 a1_1 a1_2 a0_3 t265 t266 _ A9.out).mono ?_); rintro e w24 ⟨rfl, hb⟩; refine ⟨_, rfl, ?_⟩; replace BK263 := Aside0.mk (blk_below (g := gb263) (o := .cells #[.bool a0_0, .int .u64 a0_1, .int .u64 a0_2, .int .i64 a0_3] 33 (0, 0)) (zK BK263) hb); replace BK264 := Aside0.mk (blk_below (g := gb264) (o := .cells #[.bool a1_0, .int .u64 a1_1, .int .u64 a1_2] 31 (0, 0)) (zK BK264) hb); replace HB := Aside0.mk (below_step (zB HB) hb); (try clear hb); obtain ⟨hcz25_0, hcz25_1, hcz25_2⟩ := zc3 BK264; obtain ⟨hfz25_0, hfz25_1, hfz25_2⟩ := zf3 BK264; obtain ⟨hcz26_0, hcz26_1, hcz26_2, hcz26_3⟩ := zc4 BK263; obtain ⟨hfz26_0, hfz26_1, hfz26_2, hfz26_3⟩ := zf4 BK263))
     go_ret
     exact ⟨by first | rfl | (simp [errW_none, errW_some] <;> rfl) | (simp [*, errW_none, errW_some] <;> rfl), by repeat (first | (with_reducible first | exact HB.out | apply below_alloc | apply pw_below_drewN | apply below_drew1 | refine below_set ?_ GE263.out | refine below_set ?_ GE264.out) | exact HB.out)⟩
end Go.Proofs.YtnphnhkinjppjaaGreatDoor.Q
end

section
set_option linter.unusedVariables false
set_option linter.unusedSimpArgs false
namespace Go.Proofs.YtnphnhkinjppjaaGreatDoor.Q
open Go.RowKit Go.Proofs.YtnphnhkinjppjaaGreatDoorW.PrintWords Go.Proofs.YtnphnhkinjppjaaGreatDoorW.PrintLast Go.Proofs.YtnphnhkinjppjaaGreatDoorW.PrintMore
def findBest (b0 : Bool) (b1 b2 : Int) : List S36 → S36 → Int → Option (S36)
  | [], best, _ => some best
  | x :: xs, best, bits =>
    if bits < x.f1.f1 then
      (address_Contains.f x.f1.f0.f0 x.f1.f0.f1 x.f1.f0.f2 x.f1.f1 b0 b1 b2).bind fun c =>
        if c = true then findBest b0 b1 b2 xs x x.f1.f1 else findBest b0 b1 b2 xs best bits
    else findBest b0 b1 b2 xs best bits
def asset_Find.f (l : List S36) (b0 : Bool) (b1 b2 : Int) : Option (S36) := findBest b0 b1 b2 l aDef (-1)
end Go.Proofs.YtnphnhkinjppjaaGreatDoor.Q
end

section
set_option linter.unusedVariables false
set_option linter.unusedSimpArgs false
namespace Go.Proofs.YtnphnhkinjppjaaGreatDoor.Q
open Go.RowKit Go.Proofs.YtnphnhkinjppjaaGreatDoorW.PrintWords Go.Proofs.YtnphnhkinjppjaaGreatDoorW.PrintLast Go.Proofs.YtnphnhkinjppjaaGreatDoorW.PrintMore
theorem far12 {w : World} {g h : Nat} {o : Obj} {v0 v1 v2 v3 v4 v5 v6 v7 v8 v9 v10 v11 : Value} (hh : w.heap[h]? = some o) (hne : h ≠ g) : ((((((((((((w.setCell ⟨g, 0, none⟩ v0).setCell ⟨g, 1, none⟩ v1).setCell ⟨g, 2, none⟩ v2).setCell ⟨g, 3, none⟩ v3).setCell ⟨g, 4, none⟩ v4).setCell ⟨g, 5, none⟩ v5).setCell ⟨g, 6, none⟩ v6).setCell ⟨g, 7, none⟩ v7).setCell ⟨g, 8, none⟩ v8).setCell ⟨g, 9, none⟩ v9).setCell ⟨g, 10, none⟩ v10).setCell ⟨g, 11, none⟩ v11).heap[h]? = some o := by
  repeat (refine (Below.heap_setCell _ _ _ _ hne).trans ?_)
  exact hh
structure FindI (w wr : World) (ga gr gb : Nat) (l : List S36) (b0 : Bool) (b1 b2 : Int) (best : S36) (Ab : Option Addr) (cb : Nat) : Prop where
  bel : Below w.heap.size w wr
  adr : wr.heap[ga]? = some (.cells #[.bool b0, .int .u64 b1, .int .u64 b2] 31 (0, 0))
  res : wr.heap[gr]? = some (.cells as0 36 (0, 0))
  bst : wr.heap[gb]? = some (.cells (asC best (.slice Ab best.f8.length cb)) 36 (0, 0))
  svc : Kd.C k74 w Ab best.f8.length best.f8
  sml : best.f8.length < 1000000
theorem FindI.below {w W W1 : World} {ga gr gb : Nat} {l : List S36} {b0 : Bool} {b1 b2 : Int} {best : S36} {Ab : Option Addr} {cb : Nat} (h : FindI w W ga gr gb l b0 b1 b2 best Ab cb) (hb : Below W.heap.size W W1) : FindI w W1 ga gr gb l b0 b1 b2 best Ab cb := ⟨below_then h.bel h.bel.size hb, blk_below h.adr hb, blk_below h.res hb, blk_below h.bst hb, h.svc, h.sml⟩
theorem find_no {b0 : Bool} {b1 b2 : Int} {l : List S36} {i : Nat} {best : S36} {bits : Int} {o : Option (S36)} {a : S36} (hi : i < l.length) (ha : rd_T36 l (i : Int) = a) (h : findBest b0 b1 b2 (l.drop i) best bits = o) (hb : ¬ bits < a.f1.f1) : findBest b0 b1 b2 (l.drop (i + 1)) best bits = o := by
  rw [List.drop_eq_getElem_cons hi, findBest, ← tab_get hi, ha, if_neg hb] at h
  exact h
theorem find_yes {b0 : Bool} {b1 b2 : Int} {l : List S36} {i : Nat} {best : S36} {bits : Int} {r : S36} {a : S36} (hi : i < l.length) (ha : rd_T36 l (i : Int) = a) (h : findBest b0 b1 b2 (l.drop i) best bits = some r) (hb : bits < a.f1.f1) : ∃ c, address_Contains.f a.f1.f0.f0 a.f1.f0.f1 a.f1.f0.f2 a.f1.f1 b0 b1 b2 = some c ∧ (if c = true then findBest b0 b1 b2 (l.drop (i + 1)) a a.f1.f1 else findBest b0 b1 b2 (l.drop (i + 1)) best bits) = some r := by
  rw [List.drop_eq_getElem_cons hi, findBest, ← tab_get hi, ha, if_pos hb] at h
  exact Option.bind_eq_some_iff.mp h
set_option maxHeartbeats 8000000 in
set_option maxRecDepth 100000 in
theorem find_ok (w0 w : World) (p : Nat) (l : List S36) (v : Value) (b0 : Bool) (b1 b2 : Int) (r : S36) (hT : TabW w0 w p l v) (hl : l.length ≤ 1000) (hs : ∀ a ∈ l, a.f8.length < 1000000) (h : asset_Find.f l b0 b1 b2 = some r) :
    Calls Tryz.prog 27 #[.pointer (some ⟨p, 0, none⟩), .agg #[.bool b0, .int .u64 b1, .int .u64 b2]] w fun e w' => ∃ v', e = .returned (.agg (asC r v')) ∧ Kd.R k74 74 w' w.heap.size (fun _ => True) v' r.f8 ∧ Below w.heap.size w w' := by
  have hu := Tryz.underlying36
  have hu2 := Tryz.underlying93
  have hu3 := Tryz.underlying33
  have hu4 := Tryz.underlying31
  have hsz : (w.alloc (.cells #[.bool b0, .int .u64 b1, .int .u64 b2] 31)).heap.size = w.heap.size + 1 := by show (w.heap.push _).size = _; rw [Array.size_push]
  have HX : Aside0 ((w.alloc (.cells #[.bool b0, .int .u64 b1, .int .u64 b2] 31)).heap[w.heap.size]? = some (.cells #[.bool b0, .int .u64 b1, .int .u64 b2] 31 (0, 0))) := ⟨heap_alloc_new _ _⟩
  replace HX := Aside0.mk (blk_alloc HX.out (.cells as0 36))
  have HY : Aside0 (((w.alloc (.cells #[.bool b0, .int .u64 b1, .int .u64 b2] 31)).alloc (.cells as0 36)).heap[(w.alloc (.cells #[.bool b0, .int .u64 b1, .int .u64 b2] 31)).heap.size]? = some (.cells as0 36 (0, 0))) := ⟨heap_alloc_new _ _⟩
  have HB := Aside0.mk (below_alloc (below_alloc (Below.refl w.heap.size w) (.cells #[.bool b0, .int .u64 b1, .int .u64 b2] 31)) (.cells as0 36))
  rw [hsz] at HY
  clear hsz
  have HT := Aside0.mk (hT.below HB.out)
  have HT0 := Aside0.mk hT
  have HS := Aside0.mk hs
  have HH := Aside0.mk h
  obtain ⟨Al, cl, hv⟩ := Kd.R_slice hT.out
  subst hv
  obtain ⟨n, hn⟩ : ∃ n, l.length = n := ⟨_, rfl⟩
  have HC := Aside0.mk (Kd.R_reads' HT0.out.out).2.2
  rw [hn] at HT hl
  have HN := Aside0.mk hn
  have HL := Aside0.mk hl
  clear hT h hl hn hs HT0
  go_enter Tryz.func27, Tryz.ntmps27
  go_upto_region 1 with (fail)
  obtain ⟨ga, hga⟩ : ∃ x, w.heap.size = x := ⟨_, rfl⟩
  obtain ⟨gr, hgr⟩ : ∃ x, w.heap.size + 1 = x := ⟨_, rfl⟩
  have HG : Aside0 (w.heap.size ≤ ga ∧ w.heap.size ≤ gr ∧ ga < gr) := ⟨by omega⟩
  rw [hgr] at HY
  simp only [hgr]
  rw [hga] at HX
  simp only [hga]
  clear hgr hga
  change Code.wp _ _ _ _ ((w.alloc (.cells #[.bool b0, .int .u64 b1, .int .u64 b2] 31)).alloc (.cells as0 36))
  generalize (w.alloc (.cells #[.bool b0, .int .u64 b1, .int .u64 b2] 31)).alloc (.cells as0 36) = W1 at HX HY HB HT ⊢
  go_wp2_with fail
  refine (asset_Default.calls _ _ _ _ _ _ _ _ _ _ _ _ W1 rfl).mono ?_
  rintro e W2 ⟨v0, rfl, ho, hb⟩
  replace HT := Aside0.mk (HT.out.below hb)
  obtain ⟨A0, c0, hv0⟩ := Kd.R_slice ho
  subst hv0
  replace HX := Aside0.mk (blk_below HX.out hb)
  replace HY := Aside0.mk (blk_below HY.out hb)
  replace HB := Aside0.mk (below_then HB.out HB.out.size hb)
  have HK0 : Aside0 (Kd.C k74 w A0 aDef.f8.length aDef.f8) := ⟨rfl, by decide, fun h => absurd h (by decide)⟩
  clear ho hb
  have q0 := zc (Aside0.mk (blk_alloc HT.out.blk (.cells (asC aDef (.slice A0 aDef.f8.length c0)) 36))) 0
  go_upto_region 4 with (fail)
  have HD : Aside0 ((W2.alloc (.cells (asC aDef (.slice A0 aDef.f8.length c0)) 36)).heap[W2.heap.size]? = some (.cells (asC aDef (.slice A0 aDef.f8.length c0)) 36 (0, 0))) := ⟨heap_alloc_new _ _⟩
  have HF : Aside0 (FindI w (W2.alloc (.cells (asC aDef (.slice A0 aDef.f8.length c0)) 36)) ga gr W2.heap.size l b0 b1 b2 aDef A0 c0) := ⟨below_alloc HB.out _, blk_alloc HX.out _, blk_alloc HY.out _, HD.out, HK0.out, by decide⟩
  have HG2 : Aside0 (ga < W2.heap.size ∧ gr < W2.heap.size ∧ w.heap.size ≤ W2.heap.size) := ⟨blk_lt HX.out, blk_lt HY.out, HB.out.size⟩
  clear HX HY HB HT HK0 HD
  obtain ⟨gb, hgb⟩ : ∃ x, W2.heap.size = x := ⟨_, rfl⟩
  rw [hgb] at HF HG2
  simp only [hgb]
  clear hgb
  change Code.wp _ _ _ _ (W2.alloc (.cells (asC aDef (.slice A0 aDef.f8.length c0)) 36))
  generalize W2.alloc (.cells (asC aDef (.slice A0 aDef.f8.length c0)) 36) = W3 at HF q0 ⊢
  go_upto_region 5 with (fail)
  clear q0
  go_loopg [6, 18] (n + 1) (fun gg v6 v18 wr => ∃ (i : Nat) (best : S36) (bits : Int) (Ab : Option Addr) (cb : Nat), v18 = .int .i64 (i : Int) ∧ v6 = .int .i64 bits ∧ Aside0 (gg + i = n + 1 ∧ i ≤ n) ∧ Aside0 (findBest b0 b1 b2 (l.drop i) best bits = some r) ∧ Aside0 (FindI w wr ga gr gb l b0 b1 b2 best Ab cb))
  case atStart => exact ⟨0, aDef, -1, A0, c0, rfl, rfl, ⟨by omega, by omega⟩, ⟨HH.out⟩, HF⟩
  case round =>
    clear HF HH W3
    obtain ⟨i, best, bits, Ab, cb, rfl, rfl, HI, HE, HF⟩ := hrel
    by_cases hi : i < n
    · have HII := Aside0.mk hi
      have b1' : decide ((i : Int) < (n : Int)) = true := decide_eq_true (by omega)
      have b2' : decide (i < n) = true := decide_eq_true hi
      have b3 : n ≤ 1000000 := by have := HL.out; omega
      obtain ⟨ad, Ax, cx, rfl, k0, k1, k2, k3, k4, k5, k6, k7, k8, k9, k10, k11, kl, kc⟩ := at_T36 HC.out (i : Int) (by omega) (by rw [HN.out]; omega)
      replace k0 := pw_cell_below HF.out.bel k0
      replace k1 := pw_cell_below HF.out.bel k1
      replace k2 := pw_cell_below HF.out.bel k2
      replace k3 := pw_cell_below HF.out.bel k3
      replace k4 := pw_cell_below HF.out.bel k4
      replace k5 := pw_cell_below HF.out.bel k5
      replace k6 := pw_cell_below HF.out.bel k6
      replace k7 := pw_cell_below HF.out.bel k7
      replace k8 := pw_cell_below HF.out.bel k8
      replace k9 := pw_cell_below HF.out.bel k9
      replace k10 := pw_cell_below HF.out.bel k10
      replace k11 := pw_cell_below HF.out.bel k11
      simp only [Int.toNat_natCast] at k0 k1 k2 k3 k4 k5 k6 k7 k8 k9 k10 k11
      have HSM : Aside0 ((rd_T36 l (i : Int)).f8.length < 1000000) := ⟨HS.out _ (tab_mem (by rw [HN.out]; exact hi))⟩
      obtain ⟨a, ha⟩ : ∃ a, rd_T36 l (i : Int) = a := ⟨_, rfl⟩
      rw [ha] at k0 k1 k2 k3 k4 k5 k6 k7 k8 k9 k10 k11 kl kc HSM
      have HAA := Aside0.mk ha
      have HKC := Aside0.mk kc
      clear kl kc ha
      go_upto_region 7 with (fail)
      clear hi
      obtain ⟨gx, hgx⟩ : ∃ x, wr.heap.size = x := ⟨_, rfl⟩
      have HA : Aside0 ((wr.alloc (.cells (asC a (.slice Ax a.f8.length cx)) 36)).heap[wr.heap.size]? = some (.cells (asC a (.slice Ax a.f8.length cx)) 36 (0, 0))) := ⟨heap_alloc_new _ _⟩
      have HNE : Aside0 (gb ≠ wr.heap.size) := ⟨by have := blk_lt HF.out.bst; omega⟩
      rw [hgx] at HA HNE
      simp only [hgx]
      clear hgx k0 k1 k2 k3 k4 k5 k6 k7 k8 k9 k10 k11
      replace HF := Aside0.mk (HF.out.below (below_alloc (Below.refl _ _) (.cells (asC a (.slice Ax a.f8.length cx)) 36)))
      change Code.wp _ _ _ _ (wr.alloc (.cells (asC a (.slice Ax a.f8.length cx)) 36))
      generalize wr.alloc (.cells (asC a (.slice Ax a.f8.length cx)) 36) = W1 at HA HF ⊢
      obtain ⟨d0, d1, d2, d3, d4, d5, d6, d7, d8, d9, d10, d11⟩ := zc12 HA
      obtain ⟨q0, q1, q2⟩ := zc3 (Aside0.mk HF.out.adr)
      have hi2 : i < n := HII.out
      have HI1 : Aside0 ((n - i) + (i + 1) = n + 1 ∧ i + 1 ≤ n) := ⟨by have := HII.out; omega, HII.out⟩
      by_cases hb : bits < a.f1.f1
      · obtain ⟨c, hc, hcs⟩ := find_yes (by rw [HN.out]; exact hi2) HAA.out HE.out hb
        have HCC := Aside0.mk hc
        have HCS := Aside0.mk hcs
        have g1 : decide (bits < a.f1.f1) = true := decide_eq_true hb
        have g2 : decide (a.f1.f1 > bits) = true := decide_eq_true hb
        clear hc hcs
        go_wp2_with fail
        refine (address_Contains.calls _ _ _ _ _ _ _ c W1 HCC.out).mono ?_
        rintro e w2 ⟨rfl, hb2⟩
        replace HA := Aside0.mk (blk_below HA.out hb2)
        replace HF := Aside0.mk (HF.out.below hb2)
        clear hb2 d0 d1 d2 d3 d4 d5 d6 d7 d8 d9 d10 d11 q0 q1 q2
        cases c
        · have HCS2 : Aside0 (findBest b0 b1 b2 (l.drop (i + 1)) best bits = some r) := ⟨by have h := HCS.out; rwa [if_neg Bool.false_ne_true] at h⟩
          go_wp2
          go_roundg (n - i)
          case measure => have := HI.out.1; have := HII.out; omega
          case rel => exact ⟨i + 1, best, bits, Ab, cb, by (have := HII.out; go_num), rfl, HI1, HCS2, HF⟩
        · have HCS2 : Aside0 (findBest b0 b1 b2 (l.drop (i + 1)) a a.f1.f1 = some r) := ⟨by have h := HCS.out; rwa [if_pos rfl] at h⟩
          go_upto_region 8 with (fail)
          refine start_ (n := 6) (S := fun w' => w'.cell? ⟨gx, 0, none⟩ = some (.string a.f0) ∧ w'.cell? ⟨gx, 1, none⟩ = some (.bool a.f1.f0.f0) ∧ w'.cell? ⟨gx, 2, none⟩ = some (.int .u64 a.f1.f0.f1) ∧ w'.cell? ⟨gx, 3, none⟩ = some (.int .u64 a.f1.f0.f2) ∧ w'.cell? ⟨gx, 4, none⟩ = some (.int .i64 a.f1.f1) ∧ w'.cell? ⟨gx, 5, none⟩ = some (.int .i64 a.f2) ∧ w'.cell? ⟨gx, 6, none⟩ = some (.int .i64 a.f3) ∧ w'.cell? ⟨gx, 7, none⟩ = some (.int .i64 a.f4) ∧ w'.cell? ⟨gx, 8, none⟩ = some (.int .i64 a.f5) ∧ w'.cell? ⟨gx, 9, none⟩ = some (.bool a.f6) ∧ w'.cell? ⟨gx, 10, none⟩ = some (.int .i64 a.f7) ∧ w'.cell? ⟨gx, 11, none⟩ = some (.slice Ax a.f8.length cx)) (ds := []) #[false, false, false, false, false, false] (by kernel_rfl) rfl rfl ⟨zc (HA) 0, zc (HA) 1, zc (HA) 2, zc (HA) 3, zc (HA) 4, zc (HA) 5, zc (HA) 6, zc (HA) 7, zc (HA) 8, zc (HA) 9, zc (HA) 10, zc (HA) 11⟩ (fun hHeld => ?_)
          replace HF := Aside0.mk (HF.out.below (Below.drew (Below.refl _ _)))
          replace HA : Aside0 (w2.drew.heap[gx]? = some (.cells (asC a (.slice Ax a.f8.length cx)) 36 (0, 0))) := ⟨HA.out⟩
          generalize w2.drew = W4 at HA HF hHeld ⊢
          refine zt0 0 33 hHeld ?_; refine zp0 1 34 ?_; refine zp0 2 35 ?_; refine zt0 3 36 hHeld ?_
          have HBST := Aside0.mk HF.out.bst
          obtain ⟨d0, d1, d2, d3, d4, d5, d6, d7, d8, d9, d10, d11⟩ := zc12 HBST
          obtain ⟨f0, f1, f2, f3, f4, f5, f6, f7, f8, f9, f10, f11⟩ := zf12 HBST
          refine one_ (i := 4) (N := none) #[true, true, true, true, true, false] rfl rfl (by kernel_rfl) (by decide) (fun K hK => ?_)
          refine skip_ (w1 := ?_) (by rfl) rfl ?_ ?_
          rotate_left
          · go_simp
            rfl
          have HA4 := Aside0.mk (far12 (v0 := .string a.f0) (v1 := .bool a.f1.f0.f0) (v2 := .int .u64 a.f1.f0.f1) (v3 := .int .u64 a.f1.f0.f2) (v4 := .int .i64 a.f1.f1) (v5 := .int .i64 a.f2) (v6 := .int .i64 a.f3) (v7 := .int .i64 a.f4) (v8 := .int .i64 a.f5) (v9 := .bool a.f6) (v10 := .int .i64 a.f7) (v11 := .slice Ax a.f8.length cx) HA.out (Ne.symm HNE.out))
          refine hK.out _ _ ⟨zc (HA4) 0, zc (HA4) 1, zc (HA4) 2, zc (HA4) 3, zc (HA4) 4, zc (HA4) 5, zc (HA4) 6, zc (HA4) 7, zc (HA4) 8, zc (HA4) 9, zc (HA4) 10, zc (HA4) 11⟩ (fun hHeld => ?_)
          clear hK K d0 d1 d2 d3 d4 d5 d6 d7 d8 d9 d10 d11 f0 f1 f2 f3 f4 f5 f6 f7 f8 f9 f10 f11 HA4
          refine zp0 5 6 ?_
          refine zd0 ?_
          have HF2 : Aside0 (FindI w _ ga gr gb l b0 b1 b2 a Ax cx) := ⟨below12 HF.out.bel (by have := HG2.out; omega), far12 HF.out.adr (by have := HG2.out; omega), far12 HF.out.res (by have := HG2.out; omega), put12 HF.out.bst, HKC.out, HSM.out⟩
          go_wp2
          go_roundg (n - i)
          case measure => have := HI.out.1; have := HII.out; omega
          case rel => exact ⟨i + 1, a, a.f1.f1, Ax, cx, by (have := HII.out; go_num), rfl, HI1, HCS2, HF2⟩
      · have HCS2 := Aside0.mk (find_no (by rw [HN.out]; exact hi2) HAA.out HE.out hb)
        have g1 : decide (bits < a.f1.f1) = false := decide_eq_false hb
        have g2 : decide (a.f1.f1 > bits) = false := decide_eq_false hb
        go_wp2
        go_roundg (n - i)
        case measure => have := HI.out.1; have := HII.out; omega
        case rel => exact ⟨i + 1, best, bits, Ab, cb, by (have := HII.out; go_num), rfl, HI1, HCS2, HF⟩
    · have b1' : decide ((i : Int) < (n : Int)) = false := decide_eq_false (by omega)
      have b2' : decide (i < n) = false := decide_eq_false hi
      have HR : Aside0 (best = r) := ⟨by have h := HE.out; rw [List.drop_of_length_le (by rw [HN.out]; omega), findBest] at h; exact Option.some.inj h⟩
      obtain ⟨d0, d1, d2, d3, d4, d5, d6, d7, d8, d9, d10, d11⟩ := zc12 (Aside0.mk HF.out.bst)
      have HGR : Aside0 (w.heap.size ≤ gr) := ⟨HG.out.2.1⟩
      go_wp2_with fail
      refine (clone_walk' best Ab cb wr (Kd.C_below HF.out.svc HF.out.bel) HF.out.sml).mono ?_
      rintro e w5 ⟨g, rfl, ho, hb⟩
      clear d0 d1 d2 d3 d4 d5 d6 d7 d8 d9 d10 d11
      have HO := Aside0.mk ho
      have HSZ := Aside0.mk HF.out.bel.size
      have HY5 := Aside0.mk (blk_below HF.out.res hb)
      have HB5 := Aside0.mk (below_then HF.out.bel HF.out.bel.size hb)
      clear ho hb HF
      obtain ⟨f0, f1, f2, f3, f4, f5, f6, f7, f8, f9, f10, f11⟩ := zf12 HY5
      obtain ⟨x0, x1, x2, x3, x4, x5, x6, x7, x8, x9, x10, x11⟩ := zc12 HY5
      go_wp2
      refine bodyPost_ret (results_cell_row rfl _ _ gr 36 (asC best (.slice (some ⟨g, 0, none⟩) best.f8.length best.f8.length)) (0, 0) _ rfl (put12 HY5.out) Tryz.underlying36 rfl (by kernel_rfl)) rfl ?_
      refine ⟨.slice (some ⟨g, 0, none⟩) best.f8.length best.f8.length, by rw [HR.out], ?_, below12 HB5.out HGR.out⟩
      rw [← HR.out]
      exact putR HY5.out (Kd.R_lower HO.out HSZ.out)
end Go.Proofs.YtnphnhkinjppjaaGreatDoor.Q
end

section
set_option linter.unusedVariables false
set_option linter.unusedSimpArgs false
namespace Go.Proofs.YtnphnhkinjppjaaGreatDoor.Q
open Go.RowKit Go.Proofs.YtnphnhkinjppjaaGreatDoorW.PrintWords Go.Proofs.YtnphnhkinjppjaaGreatDoorW.PrintLast Go.Proofs.YtnphnhkinjppjaaGreatDoorW.PrintMore
def zEnd (l : List Int) : Nat → Nat → Nat
  | 0, k => k
  | d + 1, k => if l.getD k 0 = 0 then zEnd l d (k + 1) else k
def runF (l : List Int) : Nat → Nat → Nat × Nat → Nat × Nat
  | 0, _, b => b
  | d + 1, i, b => runF l d (i + 1) (if b.2 - b.1 < zEnd l (8 - i) i - i then (i, zEnd l (8 - i) i) else b)
theorem zEnd_le (l : List Int) : ∀ (d k : Nat), k ≤ zEnd l d k ∧ zEnd l d k ≤ k + d
  | 0, k => ⟨Nat.le_refl _, Nat.le_refl _⟩
  | d + 1, k => by
    unfold zEnd
    split
    · have := zEnd_le l d (k + 1); omega
    · omega
theorem r_sub {k i : Nat} (h1 : i ≤ k) (h2 : k ≤ 8) : wrap64 ((k : Int) - (i : Int)) = ((k - i : Nat) : Int) := by unfold wrap64; omega
theorem r_suc {k : Nat} (h2 : k ≤ 8) : wrap64 ((k : Int) + 1) = ((k + 1 : Nat) : Int) := by unfold wrap64; omega
theorem r_lt {k : Nat} (h : k < 8) : ((k : Int) < 8) = True := eq_true (by omega)
theorem r_ltd {k : Nat} (h : k < 8) : decide ((k : Int) < 8) = true := decide_eq_true (by omega)
theorem r_ge {k : Nat} (h : ¬ k < 8) : ((k : Int) < 8) = False := eq_false (by omega)
theorem r_ged {k : Nat} (h : ¬ k < 8) : decide ((k : Int) < 8) = false := decide_eq_false (by omega)
theorem r_gt {x y : Nat} (h : y < x) : decide ((x : Int) > (y : Int)) = true := decide_eq_true (by omega)
theorem r_ngt {x y : Nat} (h : ¬ y < x) : decide ((x : Int) > (y : Int)) = false := decide_eq_false (by omega)
theorem zEnd_on {l : List Int} {i k e : Nat} (h : zEnd l (8 - i) i = e) (h2 : zEnd l (8 - i) i = zEnd l (8 - k) k) (hk : k < 8) (hz : l.getD k 0 = 0) : zEnd l (8 - i) i = zEnd l (8 - (k + 1)) (k + 1) := by
  rw [h2, show 8 - k = (8 - (k + 1)) + 1 from by omega, zEnd, if_pos hz]
theorem zEnd_at {l : List Int} {i k : Nat} (h2 : zEnd l (8 - i) i = zEnd l (8 - k) k) (hk : k < 8) (hz : ¬ l.getD k 0 = 0) : zEnd l (8 - i) i = k := by
  rw [h2, show 8 - k = (8 - (k + 1)) + 1 from by omega, zEnd, if_neg hz]
theorem zEnd_8 {l : List Int} {i k : Nat} (h2 : zEnd l (8 - i) i = zEnd l (8 - k) k) (hk : ¬ k < 8) (hk8 : k ≤ 8) : zEnd l (8 - i) i = k := by
  rw [h2, show 8 - k = 0 from by omega, zEnd]
theorem runF_up {l : List Int} {i a b e : Nat} {r : Nat × Nat} (h : runF l (8 - i) i (a, b) = r) (hi : i < 8) (he : zEnd l (8 - i) i = e) (hc : b - a < e - i) : runF l (8 - (i + 1)) (i + 1) (i, e) = r := by
  rw [show 8 - i = (8 - (i + 1)) + 1 from by omega, runF] at h
  rw [he] at h
  simpa [hc] using h
theorem runF_stay {l : List Int} {i a b e : Nat} {r : Nat × Nat} (h : runF l (8 - i) i (a, b) = r) (hi : i < 8) (he : zEnd l (8 - i) i = e) (hc : ¬ b - a < e - i) : runF l (8 - (i + 1)) (i + 1) (a, b) = r := by
  rw [show 8 - i = (8 - (i + 1)) + 1 from by omega, runF] at h
  rw [he] at h
  simpa [hc] using h
theorem runF_8 {l : List Int} {i a b : Nat} {r : Nat × Nat} (h : runF l (8 - i) i (a, b) = r) (hi : ¬ i < 8) : a = r.1 ∧ b = r.2 := by
  rw [show 8 - i = 0 from by omega, runF] at h
  subst h
  exact ⟨rfl, rfl⟩
structure RunI (l : List Int) (gg i a b : Nat) (r : Nat × Nat) : Prop where
  m : 8 - i ≤ gg
  i8 : i ≤ 8
  ab : a ≤ b
  b8 : b ≤ 8
  res : runF l (8 - i) i (a, b) = r
structure RunK (l : List Int) (gg i k : Nat) : Prop where
  m : 8 - k ≤ gg
  ik : i ≤ k
  k8 : k ≤ 8
  e : zEnd l (8 - i) i = zEnd l (8 - k) k
theorem RunK.next {l : List Int} {gg i k : Nat} (h : RunK l gg i k) (hk : k < 8) (hz : l.getD k 0 = 0) : RunK l (8 - (k + 1)) i (k + 1) := ⟨by omega, by have := h.ik; omega, by omega, zEnd_on rfl h.e hk hz⟩
theorem RunK.less {l : List Int} {gg i k : Nat} (h : RunK l gg i k) (hk : k < 8) : 8 - (k + 1) < gg := by have := h.m; omega
theorem RunI.less {l : List Int} {gg i a b : Nat} {r : Nat × Nat} (h : RunI l gg i a b r) (hk : i < 8) : 8 - (i + 1) < gg := by have := h.m; omega
theorem RunI.up {l : List Int} {gg i a b e : Nat} {r : Nat × Nat} (h : RunI l gg i a b r) (hi : i < 8) (he : zEnd l (8 - i) i = e) (hie : i ≤ e) (he8 : e ≤ 8) (hc : b - a < e - i) : RunI l (8 - (i + 1)) (i + 1) i e r := ⟨by omega, by omega, hie, he8, runF_up h.res hi he hc⟩
theorem RunI.stay {l : List Int} {gg i a b e : Nat} {r : Nat × Nat} (h : RunI l gg i a b r) (hi : i < 8) (he : zEnd l (8 - i) i = e) (hc : ¬ b - a < e - i) : RunI l (8 - (i + 1)) (i + 1) a b r := ⟨by omega, by omega, h.ab, h.b8, runF_stay h.res hi he hc⟩
set_option maxHeartbeats 4000000 in
set_option maxRecDepth 100000 in
theorem address_run.calls (l0 l1 l2 l3 l4 l5 l6 l7 : Int) (w : World) :
    Calls Tryz.prog 96 #[.agg #[.int .u64 l0, .int .u64 l1, .int .u64 l2, .int .u64 l3, .int .u64 l4, .int .u64 l5, .int .u64 l6, .int .u64 l7]] w fun e w' => e = .returned (.tuple #[.int .i64 ((runF [l0, l1, l2, l3, l4, l5, l6, l7] 8 0 (0, 0)).1 : Nat), .int .i64 ((runF [l0, l1, l2, l3, l4, l5, l6, l7] 8 0 (0, 0)).2 : Nat)]) ∧ Below w.heap.size w w' := by
  obtain ⟨l, hl⟩ : ∃ l, l = [l0, l1, l2, l3, l4, l5, l6, l7] := ⟨_, rfl⟩
  rw [← hl]
  obtain ⟨res, hres⟩ : ∃ res, runF l 8 0 (0, 0) = res := ⟨_, rfl⟩
  have H0 : Aside0 (RunI l 8 0 0 0 res) := ⟨⟨by omega, by omega, by omega, by omega, hres⟩⟩
  rw [hres]
  clear hres
  have hu := Tryz.underlying126
  have hX : (w.alloc (.cells #[.int .u64 l0, .int .u64 l1, .int .u64 l2, .int .u64 l3, .int .u64 l4, .int .u64 l5, .int .u64 l6, .int .u64 l7] 126)).heap[w.heap.size]? = some (.cells #[.int .u64 l0, .int .u64 l1, .int .u64 l2, .int .u64 l3, .int .u64 l4, .int .u64 l5, .int .u64 l6, .int .u64 l7] 126 (0, 0)) := heap_alloc_new _ _
  have HX : Aside0 (∀ k : Nat, k < 8 → (w.alloc (.cells #[.int .u64 l0, .int .u64 l1, .int .u64 l2, .int .u64 l3, .int .u64 l4, .int .u64 l5, .int .u64 l6, .int .u64 l7] 126)).cell? ⟨w.heap.size, k, none⟩ = some (.int .u64 (l.getD k 0))) := ⟨fun k hk => by
    unfold World.cell?
    simp only [hX]
    rcases k with _ | _ | _ | _ | _ | _ | _ | _ | k <;> first | omega | (subst hl; rfl)⟩
  clear hX hl
  have HB : Aside0 (Below w.heap.size w (w.alloc (.cells #[.int .u64 l0, .int .u64 l1, .int .u64 l2, .int .u64 l3, .int .u64 l4, .int .u64 l5, .int .u64 l6, .int .u64 l7] 126))) := ⟨below_alloc (Below.refl _ _) _⟩
  go_enter Tryz.func96, Tryz.ntmps96
  go_upto_region 1 with (fail)
  obtain ⟨g, hg⟩ : ∃ g, w.heap.size = g := ⟨_, rfl⟩
  rw [hg] at HX
  simp only [hg]
  clear hg
  generalize w.alloc (.cells #[.int .u64 l0, .int .u64 l1, .int .u64 l2, .int .u64 l3, .int .u64 l4, .int .u64 l5, .int .u64 l6, .int .u64 l7] 126) = W at HX HB ⊢
  skip
  go_wp2_with fail
  go_loopg [2, 3, 6] 8 (fun gg v2 v3 v6 wr => ∃ (i a b : Nat), v2 = .int .i64 (a : Int) ∧ v3 = .int .i64 (b : Int) ∧ v6 = .int .i64 (i : Int) ∧ Aside0 (RunI l gg i a b res) ∧ wr = W)
  case atStart => exact ⟨0, 0, 0, rfl, rfl, rfl, H0, rfl⟩
  case round =>
    obtain ⟨i, a, b, rfl, rfl, rfl, HI, hwr⟩ := hrel
    rw [hwr]
    clear hwr
    clear H0
    by_cases hi8 : i < 8
    · have hlt := r_lt hi8
      have hlt2 := r_ltd hi8
      have HI8 := Aside0.mk hi8
      clear hi8
      go_wp2_with fail
      go_loopg [5] 8 (fun gg v5 wr => ∃ (k : Nat), v5 = .int .i64 (k : Int) ∧ Aside0 (RunK l gg i k) ∧ wr = W)
      case atStart => exact ⟨i, rfl, ⟨⟨by omega, Nat.le_refl _, HI.out.i8, rfl⟩⟩, rfl⟩
      case round =>
        clear hlt hlt2
        obtain ⟨k, rfl, HK, hwr2⟩ := hrel
        rw [hwr2]
        clear hwr2
        by_cases hk : k < 8
        · have hlk := r_lt hk
          have hlk2 := r_ltd hk
          have hc : W.cell? ⟨g, k, none⟩ = some (.int .u64 (l.getD k 0)) := HX.out k hk
          by_cases hz : l.getD k 0 = 0
          · rw [hz] at hc
            have HF : Aside0 (RunK l (8 - (k + 1)) i (k + 1)) := ⟨HK.out.next hk hz⟩
            have HL := Aside0.mk (HK.out.less hk)
            have HS : Aside0 (wrap64 ((k : Int) + 1) = ((k + 1 : Nat) : Int)) := ⟨r_suc HK.out.k8⟩
            clear hk hz HK
            go_upto_region 6 with (fail)
            clear hlk hlk2 hc
            go_wp2_with fail
            go_roundg (8 - (k + 1))
            case measure => exact HL.out
            case rel => exact ⟨k + 1, by rw [HS.out], HF, rfl⟩
          · have HZ : Aside0 (zEnd l (8 - i) i = k) := ⟨zEnd_at HK.out.e hk hz⟩
            have hz1 : (l.getD k 0 == 0) = false := by simpa using hz
            have hz2 : decide (l.getD k 0 = 0) = false := by simpa using hz
            have HIK : Aside0 (i ≤ k) := ⟨HK.out.ik⟩
            have HK8 : Aside0 (k ≤ 8) := ⟨HK.out.k8⟩
            clear hk hz HK
            generalize l.getD k 0 = z at hc hz1 hz2
            go_upto_region 7 with (fail)
            clear hlk hlk2 hc hz1 hz2
            by_cases hcmp : b - a < k - i
            · have hcmp1 : decide (wrap64 ((k : Int) - (i : Int)) > wrap64 ((b : Int) - (a : Int))) = true := by rw [r_sub HIK.out HK8.out, r_sub HI.out.ab HI.out.b8]; exact r_gt hcmp
              have hcmp2 : (wrap64 ((k : Int) - (i : Int)) > wrap64 ((b : Int) - (a : Int))) = True := eq_true (of_decide_eq_true hcmp1)
              have HN : Aside0 (RunI l (8 - (i + 1)) (i + 1) i k res) := ⟨HI.out.up HI8.out HZ.out HIK.out HK8.out hcmp⟩
              have HL := Aside0.mk (HI.out.less HI8.out)
              have HS : Aside0 (wrap64 ((i : Int) + 1) = ((i + 1 : Nat) : Int)) := ⟨r_suc HI.out.i8⟩
              clear hcmp
              go_wp2_with fail
              go_roundg (8 - (i + 1))
              case measure => exact HL.out
              case rel => exact ⟨i + 1, i, k, rfl, rfl, by rw [HS.out], HN, rfl⟩
            · have hcmp1 : decide (wrap64 ((k : Int) - (i : Int)) > wrap64 ((b : Int) - (a : Int))) = false := by rw [r_sub HIK.out HK8.out, r_sub HI.out.ab HI.out.b8]; exact r_ngt hcmp
              have hcmp2 : (wrap64 ((k : Int) - (i : Int)) > wrap64 ((b : Int) - (a : Int))) = False := eq_false (of_decide_eq_false hcmp1)
              have HN : Aside0 (RunI l (8 - (i + 1)) (i + 1) a b res) := ⟨HI.out.stay HI8.out HZ.out hcmp⟩
              have HL := Aside0.mk (HI.out.less HI8.out)
              have HS : Aside0 (wrap64 ((i : Int) + 1) = ((i + 1 : Nat) : Int)) := ⟨r_suc HI.out.i8⟩
              clear hcmp
              go_wp2_with fail
              go_roundg (8 - (i + 1))
              case measure => exact HL.out
              case rel => exact ⟨i + 1, a, b, rfl, rfl, by rw [HS.out], HN, rfl⟩
        · have HZ : Aside0 (zEnd l (8 - i) i = k) := ⟨zEnd_8 HK.out.e hk HK.out.k8⟩
          have hlk := r_ge hk
          have hlk2 := r_ged hk
          have HIK : Aside0 (i ≤ k) := ⟨HK.out.ik⟩
          have HK8 : Aside0 (k ≤ 8) := ⟨HK.out.k8⟩
          clear hk HK
          go_upto_region 7 with (fail)
          clear hlk hlk2
          by_cases hcmp : b - a < k - i
          · have hcmp1 : decide (wrap64 ((k : Int) - (i : Int)) > wrap64 ((b : Int) - (a : Int))) = true := by rw [r_sub HIK.out HK8.out, r_sub HI.out.ab HI.out.b8]; exact r_gt hcmp
            have hcmp2 : (wrap64 ((k : Int) - (i : Int)) > wrap64 ((b : Int) - (a : Int))) = True := eq_true (of_decide_eq_true hcmp1)
            have HN : Aside0 (RunI l (8 - (i + 1)) (i + 1) i k res) := ⟨HI.out.up HI8.out HZ.out HIK.out HK8.out hcmp⟩
            have HL := Aside0.mk (HI.out.less HI8.out)
            have HS : Aside0 (wrap64 ((i : Int) + 1) = ((i + 1 : Nat) : Int)) := ⟨r_suc HI.out.i8⟩
            clear hcmp
            go_wp2_with fail
            go_roundg (8 - (i + 1))
            case measure => exact HL.out
            case rel => exact ⟨i + 1, i, k, rfl, rfl, by rw [HS.out], HN, rfl⟩
          · have hcmp1 : decide (wrap64 ((k : Int) - (i : Int)) > wrap64 ((b : Int) - (a : Int))) = false := by rw [r_sub HIK.out HK8.out, r_sub HI.out.ab HI.out.b8]; exact r_ngt hcmp
            have hcmp2 : (wrap64 ((k : Int) - (i : Int)) > wrap64 ((b : Int) - (a : Int))) = False := eq_false (of_decide_eq_false hcmp1)
            have HN : Aside0 (RunI l (8 - (i + 1)) (i + 1) a b res) := ⟨HI.out.stay HI8.out HZ.out hcmp⟩
            have HL := Aside0.mk (HI.out.less HI8.out)
            have HS : Aside0 (wrap64 ((i : Int) + 1) = ((i + 1 : Nat) : Int)) := ⟨r_suc HI.out.i8⟩
            clear hcmp
            go_wp2_with fail
            go_roundg (8 - (i + 1))
            case measure => exact HL.out
            case rel => exact ⟨i + 1, a, b, rfl, rfl, by rw [HS.out], HN, rfl⟩
    · have HR := Aside0.mk (runF_8 HI.out.res hi8)
      have hlt := r_ge hi8
      have hlt2 := r_ged hi8
      clear hi8
      obtain ⟨he1, he2⟩ := HR.out
      subst he1 he2
      clear HR
      go_wp2_with fail
      exact bodyPost_ret (v := .tuple #[.int .i64 (res.1 : Int), .int .i64 (res.2 : Int)]) (by simp [results, Tryz.results96, go_sem]) rfl ⟨rfl, HB.out⟩
end Go.Proofs.YtnphnhkinjppjaaGreatDoor.Q
end

section
set_option linter.unusedVariables false
set_option linter.unusedSimpArgs false
namespace Go.Proofs.YtnphnhkinjppjaaGreatDoor.Q
open Go.RowKit Go.Proofs.YtnphnhkinjppjaaGreatDoorW.PrintWords Go.Proofs.YtnphnhkinjppjaaGreatDoorW.PrintLast Go.Proofs.YtnphnhkinjppjaaGreatDoorW.PrintMore
def hexD (n : Nat) : UInt8 := [48, 49, 50, 51, 52, 53, 54, 55, 56, 57, 97, 98, 99, 100, 101, 102].getD n 0
def hexL : Nat → Nat → List UInt8
  | 0, _ => []
  | k + 1, n => if n < 16 then [hexD n] else hexL k (n / 16) ++ [hexD (n % 16)]
theorem pow2_16 (w : World) : Calls Tryz.prog 144 #[.int .i64 16] w fun e w' => e = .returned (.bool true) ∧ Below w.heap.size w w' := by
  go_enter Tryz.func144, Tryz.ntmps144
  go_wp2
  go_ret
  exact ⟨rfl, by repeat (first | (with_reducible apply below_alloc) | (with_reducible apply pw_below_drewN) | (with_reducible apply below_drew1) | exact Below.refl _ _)⟩
theorem tz16 (w : World) (hW : WOK w) : Calls Tryz.prog 145 #[.int .u64 16] w fun e w' => e = .returned (.int .i64 4) ∧ Below w.heap.size w w' := by
  have h := Tryz.bits_TrailingZeros 16 (by decide) w (fun _ => hW.bit)
  rw [show Lib.ctz 64 16 = 4 from by decide] at h
  refine h.mono ?_
  rintro e w' ⟨rfl, rfl⟩
  exact ⟨rfl, Below.refl _ _⟩
theorem bits_and15 (x : Nat) (hx : x < 18446744073709551616) : Go.bits .and .u64 (x : Int) 15 = ((x % 16 : Nat) : Int) := by
  have e : ∀ y : Nat, y < 18446744073709551616 → (BitVec.ofInt 64 (y : Int)).toNat = y := fun y hy => by rw [BitVec.toNat_ofInt]; simp; omega
  unfold Go.bits
  show IntKind.u64.wrap ((((BitVec.ofInt 64 (x : Int)) &&& (BitVec.ofInt 64 ((15 : Nat) : Int))).toNat : Nat) : Int) = _
  rw [BitVec.toNat_and, e x hx, e 15 (by decide), show (15 : Nat) = 2 ^ 4 - 1 from rfl, Nat.and_two_pow_sub_one_eq_mod]
  exact IntWalk.u64_in _ ⟨by omega, by have := Nat.mod_lt x (show 0 < 2 ^ 4 by decide); omega⟩
structure HexAt (w0 : World) (g : Nat) (n0 : Nat) (wr : World) (i u : Nat) : Prop where
  arr : ∃ cs : Array Value, wr.heap[g]? = some (.cells cs 166 (0, 0)) ∧ cs.size = 65 ∧ ∃ ds : List UInt8, cs.toList.drop i = ds.map (fun d => Value.int .u8 d.toNat) ∧ ds.length = 65 - i ∧ hexL 4 n0 = hexL (i - 61) u ++ ds
  lo : 62 ≤ i
  hi : i ≤ 65
  small : u < 16 ^ (i - 61)
  bel : Below w0.heap.size w0 wr
theorem drop_set_self {l : List Value} {j : Nat} (hj : j < l.length) (v : Value) : (l.set j v).drop j = v :: l.drop (j + 1) := by
  rw [List.drop_eq_getElem_cons (by simpa using hj), List.getElem_set_self, List.drop_set_of_lt (by omega)]
theorem HexAt.put {w0 wr : World} {g n0 j n : Nat} (h : HexAt w0 g n0 wr (j + 1) n) (hn : 16 ≤ n) (hg : w0.heap.size ≤ g) (dv : UInt8) (hd : dv = hexD (n % 16)) : HexAt w0 g n0 (wr.setCell ⟨g, j, none⟩ (.int .u8 dv.toNat)) j (n / 16) := by
  obtain ⟨⟨cs, hx, hs, ds, hd1, hd2, hd3⟩, hlo, hhi, hsm, hbl⟩ := h
  have hj : 62 ≤ j := by
    rcases Nat.lt_or_ge j 62 with h | h
    · rw [show j + 1 - 61 = 1 from by omega] at hsm; omega
    · exact h
  have hk : j + 1 - 61 = (j - 61) + 1 := by omega
  rw [hk] at hsm hd3
  refine ⟨⟨_, blk_set hx j _, by simpa using hs, dv :: ds, ?_, by simp; omega, ?_⟩, hj, by omega, ?_, hbl.setCell hg _⟩
  · rw [Array.toList_setIfInBounds, drop_set_self (by simpa using by omega), hd1]
    rfl
  · rw [hd3, hexL, if_neg (by omega), hd, List.append_assoc]
    rfl
  · rw [Nat.pow_succ] at hsm
    exact Nat.div_lt_of_lt_mul (by rw [Nat.mul_comm]; exact hsm)
theorem HexAt.last {w0 wr : World} {g n0 j n : Nat} (h : HexAt w0 g n0 wr (j + 1) n) (hn : n < 16) (hg : w0.heap.size ≤ g) (dv : UInt8) (hd : dv = hexD n) :
    Below w0.heap.size w0 (wr.setCell ⟨g, j, none⟩ (.int .u8 dv.toNat)) ∧ ∃ cs : Array Value, (wr.setCell ⟨g, j, none⟩ (.int .u8 dv.toNat)).heap[g]? = some (.cells cs 166 (0, 0)) ∧ cs.size = 65 ∧ cs.toList.drop j = (hexL 4 n0).map (fun d => Value.int .u8 d.toNat) := by
  obtain ⟨⟨cs, hx, hs, ds, hd1, hd2, hd3⟩, hlo, hhi, hsm, hbl⟩ := h
  refine ⟨hbl.setCell hg _, _, blk_set hx j _, by simpa using hs, ?_⟩
  rw [Array.toList_setIfInBounds, drop_set_self (by simpa using by omega), hd1, hd3, show j + 1 - 61 = (j - 61) + 1 from by omega, hexL, if_pos hn, hd]
  rfl
theorem digit_ix : ∀ d : Nat, d < 16 → ∀ h, (⟨#[48, 49, 50, 51, 52, 53, 54, 55, 56, 57, 97, 98, 99, 100, 101, 102, 103, 104, 105, 106, 107, 108, 109, 110, 111, 112, 113, 114, 115, 116, 117, 118, 119, 120, 121, 122]⟩ : ByteArray)[d]'h = hexD d := by decide
theorem digit_at (n : Nat) (h : (Go.bits .and .u64 (n : Int) 15).toNat < (⟨#[48, 49, 50, 51, 52, 53, 54, 55, 56, 57, 97, 98, 99, 100, 101, 102, 103, 104, 105, 106, 107, 108, 109, 110, 111, 112, 113, 114, 115, 116, 117, 118, 119, 120, 121, 122]⟩ : ByteArray).size) (hb : Go.bits .and .u64 (n : Int) 15 = ((n % 16 : Nat) : Int)) :
    (⟨#[48, 49, 50, 51, 52, 53, 54, 55, 56, 57, 97, 98, 99, 100, 101, 102, 103, 104, 105, 106, 107, 108, 109, 110, 111, 112, 113, 114, 115, 116, 117, 118, 119, 120, 121, 122]⟩ : ByteArray)[(Go.bits .and .u64 (n : Int) 15).toNat]'h = hexD (n % 16) := by
  have e : (Go.bits .and .u64 (n : Int) 15).toNat = n % 16 := by rw [hb]; exact Int.toNat_natCast _
  have hlt : n % 16 < 16 := Nat.mod_lt _ (by decide)
  have key : ∀ m (hm : m < (⟨#[48, 49, 50, 51, 52, 53, 54, 55, 56, 57, 97, 98, 99, 100, 101, 102, 103, 104, 105, 106, 107, 108, 109, 110, 111, 112, 113, 114, 115, 116, 117, 118, 119, 120, 121, 122]⟩ : ByteArray).size), m = n % 16 → (⟨#[48, 49, 50, 51, 52, 53, 54, 55, 56, 57, 97, 98, 99, 100, 101, 102, 103, 104, 105, 106, 107, 108, 109, 110, 111, 112, 113, 114, 115, 116, 117, 118, 119, 120, 121, 122]⟩ : ByteArray)[m]'hm = hexD (n % 16) := fun m hm e2 => by subst e2; exact digit_ix _ hlt _
  exact key _ h e
theorem hex_slice (ga j : Nat) (hj : j < 65) (h0 : 0 < j) : ∀ W, (Instr.sliceAt 166 (.pointer (some ⟨ga, 0, none⟩)) (some (.int .i64 (j : Int))) none none).run Tryz.prog W = .ok (.slice (some ⟨ga, j, none⟩) (65 - j) (65 - j)) W := fun W => by
  have hal : Tryz.prog.arrayLen 166 = 65 := by kernel_rfl
  rw [run_sliceAt_array_l W 166 ⟨ga, 0, none⟩ (by kernel_rfl) .i64 (j : Int) (by omega) (by rw [hal]; omega), hal]
  go_simp
  omega
theorem hex_string {W : World} {ga j : Nat} {cs : Array Value} {l : List UInt8} (hx : W.heap[ga]? = some (.cells cs 166 (0, 0))) (hs : cs.size = 65) (hd : cs.toList.drop j = l.map (fun d => Value.int .u8 d.toNat)) (hj : j < 65) :
    (convert 60 9 (.slice (some ⟨ga, j, none⟩) (65 - j) (65 - j))).run Tryz.prog W = .ok (.string ⟨l.toArray⟩) W := by
  have hlen : l.length = 65 - j := by
    have := congrArg List.length hd
    simp only [List.length_drop, List.length_map, Array.length_toList] at this
    omega
  have hr : ReadsInt W .u8 (some ⟨ga, j, none⟩) (65 - j) (l.map (fun d => (d.toNat : Int))) := by
    refine ⟨by simp [hlen], by omega, fun _ => ⟨_, rfl, fun i hi => ?_⟩⟩
    have e : (⟨ga, j, none⟩ : Addr).add i = ⟨ga, j + i, none⟩ := by
      unfold Addr.add
      by_cases h0 : i = 0
      · rw [if_pos h0, h0]; rfl
      · rw [if_neg h0]
    rw [e]
    unfold World.cell?
    simp only [hx]
    have h2 := congrArg (fun q => q[i]?) hd
    simp only [List.getElem?_drop, List.getElem?_map] at h2
    rw [List.getElem?_eq_getElem (show i < l.length from by omega)] at h2
    simp only [Option.isSome_none, Bool.false_eq_true, if_false]
    rw [← Array.getElem?_toList, h2]
    simp [List.getElem?_eq_getElem (show i < l.length from by omega)]
  have := string_of_reads (P := Tryz.prog) (src := 60) (dst := 9) (e := 5) (c := 65 - j) (by kernel_rfl) (by kernel_rfl) (by kernel_rfl) hr
  have e : strOfNums (l.map (fun d => (d.toNat : Int))) = ⟨l.toArray⟩ := by
    have h2 : ∀ l : List UInt8, (l.map (fun d => (d.toNat : Int))).map (fun n => UInt8.ofNat n.toNat) = l := fun l => by
      induction l with
      | nil => rfl
      | cons a t ih => simp only [List.map_cons, ih, Int.toNat_natCast, UInt8.ofNat_toNat]
    unfold strOfNums
    rw [h2]
  rw [this, e]
set_option maxHeartbeats 4000000 in
set_option maxRecDepth 100000 in
theorem formatBits16 (u : Nat) (hu : u < 65536) (w : World) (hW : WOK w) : Calls Tryz.prog 124 #[.slice none 0 0, .int .u64 (u : Int), .int .i64 16, .bool false, .bool false] w fun e w' => e = .returned (.tuple #[.slice none 0 0, .string ⟨(hexL 4 u).toArray⟩]) ∧ Below w.heap.size w w' := by
  have HW := Aside0.mk hW
  clear hW
  go_enter Tryz.func124, Tryz.ntmps124
  go_wp2_with fail
  refine (pow2_16 _).mono ?_
  rintro e w2 ⟨rfl, hb⟩
  have hX := blk_below (heap_alloc_new w (.cells Tryz.zeroCells166 166)) hb
  have hB := (below_alloc (Below.refl w.heap.size w) (.cells Tryz.zeroCells166 166)).trans (hb.mono (by simp))
  have HX := Aside0.mk hX
  have HB := Aside0.mk hB
  have hG : w.heap.size ≤ w.heap.size := Nat.le_refl _
  revert HX hG
  clear hb hX hB
  generalize hga : w.heap.size = ga
  intro HX hG
  have HG : Aside0 (w.heap.size ≤ ga) := ⟨by omega⟩
  clear hG
  go_wp2_with fail
  refine (tz16 _ (HW.out.below (hga ▸ HB.out))).mono ?_
  rintro e w3 ⟨rfl, hb⟩
  have HX3 := Aside0.mk (blk_below HX.out hb)
  have HB3 := Aside0.mk (HB.out.trans (hb.mono (HB.out.size)))
  clear hb HX HB
  clear hga
  have H0 : Aside0 (HexAt w ga u w3 65 u) := ⟨⟨⟨_, HX3.out, by rfl, [], by rfl, rfl, by simp⟩, by omega, by omega, by simpa using hu, HB3.out⟩⟩
  clear HX3 HB3
  go_wp2_with fail
  go_loopg [1, 13] 65 (fun gg v1 v13 wr => ∃ (i n : Nat), i ≤ gg ∧ v1 = .int .u64 (n : Int) ∧ v13 = .int .i64 (i : Int) ∧ Aside0 (HexAt w ga u wr i n))
  case atStart => exact ⟨65, u, by omega, rfl, rfl, H0⟩
  case round =>
    obtain ⟨i, n, hig, rfl, rfl, HA⟩ := hrel
    clear H0
    by_cases hn : 16 ≤ n
    · have hn1 : ((n : Int) ≥ 16) = True := eq_true (by omega)
      have hn2 : decide ((n : Int) ≥ 16) = true := decide_eq_true (by omega)
      have hA := HA.out
      obtain ⟨⟨cs, hx, hs, ds, hd1, hd2, hd3⟩, hlo, hhi, hsm, hbl⟩ := hA
      have hi2 : 63 ≤ i := by
        rcases Nat.lt_or_ge i 63 with h | h
        · rw [show i - 61 = 1 from by omega] at hsm; omega
        · exact h
      obtain ⟨j, rfl⟩ : ∃ j, i = j + 1 := ⟨i - 1, by omega⟩
      have hw1 : wrap64 (j : Int) = (j : Int) := by unfold wrap64; omega
      have hw0 : ((j + 1 : Nat) : Int) - 1 = (j : Int) := by omega
      have hq0 : Go.bits .and .u64 (n : Int) 15 = ((n % 16 : Nat) : Int) := bits_and15 n (by
        have : 16 ^ (j + 1 - 61) ≤ 16 ^ 4 := Nat.pow_le_pow_right (by decide) (by omega)
        omega)
      have hq1 : (0 ≤ Go.bits .and .u64 (n : Int) 15 ∧ Go.bits .and .u64 (n : Int) 15 < 36) = True := eq_true (by rw [hq0]; omega)
      have hj1 : ((j : Int) < 65) = True := eq_true (by omega)
      have hc1 : ∃ old, wr.cell? ⟨ga, j, none⟩ = some old := by
        unfold World.cell?
        simp only [hx]
        exact ⟨_, Array.getElem?_eq_getElem (show j < cs.size from by omega)⟩
      obtain ⟨old, hc⟩ := hc1
      have hf : wr.frozen? ⟨ga, j, none⟩ = false := by
        unfold World.frozen?
        simp only [hx]
        simp
      clear hx hs hd1 hd2 hd3 hsm hbl
      have HQ0 := Aside0.mk hq0
      clear hq0
      go_wp2_with fail
      go_roundg j
      case measure => omega
      case rel => exact ⟨j, n / 16, Nat.le_refl _, by simp, rfl, ⟨HA.out.put hn HG.out _ (digit_at n _ HQ0.out)⟩⟩
    · have hA := HA.out
      obtain ⟨⟨cs, hx, hs, ds, hd1, hd2, hd3⟩, hlo, hhi, hsm, hbl⟩ := hA
      obtain ⟨j, rfl⟩ : ∃ j, i = j + 1 := ⟨i - 1, by omega⟩
      have hn1 : ((n : Int) ≥ 16) = False := eq_false (by omega)
      have hn2 : decide ((n : Int) ≥ 16) = false := decide_eq_false (by omega)
      have hw1 : wrap64 (j : Int) = (j : Int) := by unfold wrap64; omega
      have hw0 : ((j + 1 : Nat) : Int) - 1 = (j : Int) := by omega
      have hn36 : ((n : Int) < 36) = True := eq_true (by omega)
      have hj1 : ((j : Int) < 65) = True := eq_true (by omega)
      have hc1 : ∃ old, wr.cell? ⟨ga, j, none⟩ = some old := by
        unfold World.cell?
        simp only [hx]
        exact ⟨_, Array.getElem?_eq_getElem (show j < cs.size from by omega)⟩
      obtain ⟨old, hc⟩ := hc1
      have hf : wr.frozen? ⟨ga, j, none⟩ = false := by
        unfold World.frozen?
        simp only [hx]
        simp
      have HJ : Aside0 (62 ≤ j + 1 ∧ j + 1 ≤ 65) := ⟨hlo, hhi⟩
      clear hx hs hd1 hd2 hd3 hsm hbl
      go_upto_region 30 with (fail)
      have hD : ∀ h, (⟨#[48, 49, 50, 51, 52, 53, 54, 55, 56, 57, 97, 98, 99, 100, 101, 102, 103, 104, 105, 106, 107, 108, 109, 110, 111, 112, 113, 114, 115, 116, 117, 118, 119, 120, 121, 122]⟩ : ByteArray)[n]'h = hexD n := fun h => digit_ix n (by omega) h
      have hl := HA.out.last (by omega) HG.out (hexD n) rfl
      simp only [hD]
      obtain ⟨hb, cs, hx, hs, hd⟩ := hl
      have hj2 := HJ.out
      have hsl := hex_slice ga j (by omega) (by omega)
      have hst := hex_string hx hs hd (by omega)
      have HB := Aside0.mk hb
      clear hx hs hd hb hc hf HA hD
      generalize wr.setCell ⟨ga, j, none⟩ (.int .u8 (hexD n).toNat) = W at hst HB ⊢
      go_wp2_with fail
      exact bodyPost_ret (v := .tuple #[.slice none 0 0, .string ⟨(hexL 4 u).toArray⟩]) (by simp [results, Tryz.results124, go_sem]) rfl ⟨rfl, HB.out⟩
set_option maxHeartbeats 1000000 in
theorem formatUint16 (u : Nat) (hu : u < 65536) (w : World) (hW : WOK w) : Calls Tryz.prog 120 #[.int .u64 (u : Int), .int .i64 16] w fun e w' => e = .returned (.string ⟨(hexL 4 u).toArray⟩) ∧ Below w.heap.size w w' := by
  go_enter Tryz.func120, Tryz.ntmps120
  go_wp2_with fail
  refine (formatBits16 u hu _ (hW.below (by repeat (first | (with_reducible apply below_alloc) | (with_reducible apply pw_below_drewN) | (with_reducible apply below_drew1) | exact Below.refl _ _)))).mono ?_
  rintro e w2 ⟨rfl, hb⟩
  have HB := Aside0.mk hb
  clear hb
  go_wp2_with fail
  go_ret
  exact ⟨rfl, by first | exact HB.out | exact (below_alloc (Below.refl _ _) _).trans (HB.out.mono (by simp))⟩
set_option maxHeartbeats 1000000 in
theorem formatUint16p (u : Nat) (hu : u < 65536) (w : World) (hW : WOK w) : Calls Tryz.prog 98 #[.int .u64 (u : Int), .int .i64 16] w fun e w' => e = .returned (.string ⟨(hexL 4 u).toArray⟩) ∧ Below w.heap.size w w' := by
  go_enter Tryz.func98, Tryz.ntmps98
  go_wp2_with fail
  refine (formatUint16 u hu _ (hW.below (by repeat (first | (with_reducible apply below_alloc) | (with_reducible apply pw_below_drewN) | (with_reducible apply below_drew1) | exact Below.refl _ _)))).mono ?_
  rintro e w2 ⟨rfl, hb⟩
  have HB := Aside0.mk hb
  clear hb
  go_wp2_with fail
  go_ret
  exact ⟨rfl, by first | exact HB.out | exact (below_alloc (Below.refl _ _) _).trans (HB.out.mono (by simp))⟩
def strconv_FormatUint.f (i : Int) (base : Int) : Option ByteArray := if base = 16 then if 0 ≤ i ∧ i < 65536 then some ⟨(hexL 4 i.toNat).toArray⟩ else none else none
theorem strconv_FormatUint.calls (i base : Int) (r : ByteArray) (w : World) (h : strconv_FormatUint.f i base = some r) (hW : WOK w) :
    Calls Tryz.prog 98 #[.int .u64 i, .int .i64 base] w fun e w' => e = .returned (.string r) ∧ Below w.heap.size w w' := by
  unfold strconv_FormatUint.f at h
  split at h
  case isFalse => cases h
  rename_i hb
  subst hb
  split at h
  case isFalse => cases h
  rename_i hi
  injection h with h
  subst h
  have := formatUint16p i.toNat (by omega) w hW
  rw [show ((i.toNat : Nat) : Int) = i from by omega] at this
  exact this
end Go.Proofs.YtnphnhkinjppjaaGreatDoor.Q
end

section
set_option linter.unusedVariables false
set_option linter.unusedSimpArgs false
namespace Go.Proofs.YtnphnhkinjppjaaGreatDoor.Q
open Go.RowKit Go.Proofs.YtnphnhkinjppjaaGreatDoorW.PrintWords Go.Proofs.YtnphnhkinjppjaaGreatDoorW.PrintLast Go.Proofs.YtnphnhkinjppjaaGreatDoorW.PrintMore
theorem blk_apart {α : Type} {d : Kd α} {W w1 : World} {g base : Nat} {cs : Array Value} {t e : TypeId} {ok : Nat → Prop} {v : Value} {xs : List α} (hX : W.heap[g]? = some (.cells cs t (0, 0))) (ht : t ≠ e) (hR : d.R e W base ok v xs) (hg : W.grownBy w1 v.ownBlock) : w1.heap[g]? = some (.cells cs t (0, 0)) :=
  blk_grown hX hg (fun h => by
    obtain ⟨c, hc⟩ := Kd.R_typed hR g h.symm
    rw [hX] at hc
    injection hc with hc
    injection hc with _ hc
    exact ht hc)
def decB (n : Int) : ByteArray := ⟨(Lib.itoa n).toArray⟩
theorem itoa_b {x : Int} (h : 0 ≤ Go.bits .and .u64 x 255 ∧ Go.bits .and .u64 x 255 < 256) : strconv_Itoa.f (wrap64 (Go.bits .and .u64 x 255)) = some (decB (Go.bits .and .u64 x 255)) := by
  have e : wrap64 (Go.bits .and .u64 x 255) = Go.bits .and .u64 x 255 := by unfold wrap64; omega
  unfold strconv_Itoa.f decB
  rw [e, if_pos (by omega)]
theorem and255 (x : Int) : 0 ≤ Go.bits .and .u64 x 255 ∧ Go.bits .and .u64 x 255 < 256 := by
  unfold Go.bits
  have h1 : ((BitVec.ofInt 64 x) &&& (BitVec.ofInt 64 255)).toNat < 256 := by
    rw [BitVec.toNat_and, show (BitVec.ofInt 64 255).toNat = 2 ^ 8 - 1 from by decide, Nat.and_two_pow_sub_one_eq_mod]
    exact Nat.mod_lt _ (by decide)
  show 0 ≤ IntKind.u64.wrap _ ∧ IntKind.u64.wrap _ < 256
  rw [IntWalk.u64_in _ ⟨by show (0 : Int) ≤ (((BitVec.ofInt 64 x) &&& (BitVec.ofInt 64 255)).toNat : Int); omega, by show (((BitVec.ofInt 64 x) &&& (BitVec.ofInt 64 255)).toNat : Int) ≤ _; omega⟩]
  exact ⟨by show (0 : Int) ≤ (((BitVec.ofInt 64 x) &&& (BitVec.ofInt 64 255)).toNat : Int); omega, by show (((BitVec.ofInt 64 x) &&& (BitVec.ofInt 64 255)).toNat : Int) < 256; omega⟩
set_option maxHeartbeats 4000000 in
set_option maxRecDepth 100000 in
theorem format4 (hi lo : Int) (r : ByteArray) (w : World) (hr : strings_Join.f [decB (Go.bits .and .u64 (lo / 16777216) 255), decB (Go.bits .and .u64 (lo / 65536) 255), decB (Go.bits .and .u64 (lo / 256) 255), decB (Go.bits .and .u64 (lo) 255)] (⟨#[46]⟩ : ByteArray) = some r) (hW : WOK w) : Calls Tryz.prog 62 #[.agg #[.bool false, .int .u64 hi, .int .u64 lo]] w fun e w' => e = .returned (.string r) ∧ Below w.heap.size w w' := by
  have HW := Aside0.mk hW
  have HJ := Aside0.mk hr
  clear hW hr
  have HX : Aside0 ((w.alloc (.cells #[.bool false, .int .u64 hi, .int .u64 lo] 31)).heap[w.heap.size]? = some (.cells #[.bool false, .int .u64 hi, .int .u64 lo] 31 (0, 0))) := ⟨heap_alloc_new _ _⟩
  have HB : Aside0 (Below w.heap.size w (w.alloc (.cells #[.bool false, .int .u64 hi, .int .u64 lo] 31))) := ⟨below_alloc (Below.refl _ _) _⟩
  have HO : Aside0 (Kd.R Kd.string 9 (w.alloc (.cells #[.bool false, .int .u64 hi, .int .u64 lo] 31)) w.heap.size (fun _ => True) (.slice none 0 0) ([] : List ByteArray)) := ⟨Kd.R_nil _ _ _ _ _⟩
  go_enter Tryz.func62, Tryz.ntmps62
  go_upto_region 3 with (fail)
  obtain ⟨g, hg⟩ : ∃ g, w.heap.size = g := ⟨_, rfl⟩
  rw [hg] at HX
  simp only [hg]
  clear hg
  generalize w.alloc (.cells #[.bool false, .int .u64 hi, .int .u64 lo] 31) = W at HX HB HO ⊢
  go_upto_region 4 with (fail)
  refine wp_loop_rounds 5 ?_
  have hc : W.cell? ⟨g, 2, none⟩ = some (.int .u64 lo) := (blk_cell HX.out 2).trans rfl
  rw [rounds_succ]
  go_wp2_with fail
  clear hc
  refine (strconv_Itoa.calls _ _ _ (itoa_b (and255 _)) (HW.out.below HB.out)).mono ?_
  rintro e w2 ⟨rfl, hb⟩
  replace HX := Aside0.mk (blk_below HX.out hb)
  replace HO := Aside0.mk (Kd.R_below HO.out hb)
  replace HB := Aside0.mk (below_step HB.out hb)
  clear hb
  go_wp2_with (first | ((with_reducible refine gate_builtin (b := .append) (xs := #[.tmp 17, .tmp 27]) rfl ?_); at_builtin; refine Kd.R_append Kd.string (w0 := w) w.heap.size rfl (.tmp 17) (.tmp 27) 70 9 (.string ⟨#[]⟩) 16 rfl Tryz.underlying70 info9 rfl (by decide) (by omega) _ ([] : List ByteArray) (decB (Go.bits .and .u64 (lo / 16777216) 255)) [.string (decB (Go.bits .and .u64 (lo / 16777216) 255))] (fun _ => True) (fun _ => False) rfl rfl ?aP (fun _ hk => hk.elim) ?aF ?aO ?aB ?aS ?aL ?_; (case aP => exact rfl); (case aB => exact HB.out); (case aF => exact (fun _ _ => trivial)); (case aO => exact HO.out); (case aS => exact (below_size HB.out)); (case aL => simp); intro v0 W0 ho hb hg hat; replace HX := Aside0.mk (blk_apart HX.out (by decide) HO.out hg); replace HB := Aside0.mk hb; replace HO := Aside0.mk ho; clear ho hb hg hat))
  have hc : W0.cell? ⟨g, 2, none⟩ = some (.int .u64 lo) := (blk_cell HX.out 2).trans rfl
  rw [rounds_succ]
  go_wp2_with fail
  clear hc
  refine (strconv_Itoa.calls _ _ _ (itoa_b (and255 _)) (HW.out.below HB.out)).mono ?_
  rintro e w2 ⟨rfl, hb⟩
  replace HX := Aside0.mk (blk_below HX.out hb)
  replace HO := Aside0.mk (Kd.R_below HO.out hb)
  replace HB := Aside0.mk (below_step HB.out hb)
  clear hb
  go_wp2_with (first | ((with_reducible refine gate_builtin (b := .append) (xs := #[.tmp 17, .tmp 27]) rfl ?_); at_builtin; refine Kd.R_append Kd.string (w0 := w) w.heap.size rfl (.tmp 17) (.tmp 27) 70 9 (.string ⟨#[]⟩) 16 rfl Tryz.underlying70 info9 rfl (by decide) (by omega) _ [decB (Go.bits .and .u64 (lo / 16777216) 255)] (decB (Go.bits .and .u64 (lo / 65536) 255)) [.string (decB (Go.bits .and .u64 (lo / 65536) 255))] (fun _ => True) (fun _ => False) rfl rfl ?aP (fun _ hk => hk.elim) ?aF ?aO ?aB ?aS ?aL ?_; (case aP => exact rfl); (case aB => exact HB.out); (case aF => exact (fun _ _ => trivial)); (case aO => exact HO.out); (case aS => exact (below_size HB.out)); (case aL => simp); intro v1 W1 ho hb hg hat; replace HX := Aside0.mk (blk_apart HX.out (by decide) HO.out hg); replace HB := Aside0.mk hb; replace HO := Aside0.mk ho; clear ho hb hg hat))
  have hc : W1.cell? ⟨g, 2, none⟩ = some (.int .u64 lo) := (blk_cell HX.out 2).trans rfl
  rw [rounds_succ]
  go_wp2_with fail
  clear hc
  refine (strconv_Itoa.calls _ _ _ (itoa_b (and255 _)) (HW.out.below HB.out)).mono ?_
  rintro e w2 ⟨rfl, hb⟩
  replace HX := Aside0.mk (blk_below HX.out hb)
  replace HO := Aside0.mk (Kd.R_below HO.out hb)
  replace HB := Aside0.mk (below_step HB.out hb)
  clear hb
  go_wp2_with (first | ((with_reducible refine gate_builtin (b := .append) (xs := #[.tmp 17, .tmp 27]) rfl ?_); at_builtin; refine Kd.R_append Kd.string (w0 := w) w.heap.size rfl (.tmp 17) (.tmp 27) 70 9 (.string ⟨#[]⟩) 16 rfl Tryz.underlying70 info9 rfl (by decide) (by omega) _ [decB (Go.bits .and .u64 (lo / 16777216) 255), decB (Go.bits .and .u64 (lo / 65536) 255)] (decB (Go.bits .and .u64 (lo / 256) 255)) [.string (decB (Go.bits .and .u64 (lo / 256) 255))] (fun _ => True) (fun _ => False) rfl rfl ?aP (fun _ hk => hk.elim) ?aF ?aO ?aB ?aS ?aL ?_; (case aP => exact rfl); (case aB => exact HB.out); (case aF => exact (fun _ _ => trivial)); (case aO => exact HO.out); (case aS => exact (below_size HB.out)); (case aL => simp); intro v2 W2 ho hb hg hat; replace HX := Aside0.mk (blk_apart HX.out (by decide) HO.out hg); replace HB := Aside0.mk hb; replace HO := Aside0.mk ho; clear ho hb hg hat))
  have hc : W2.cell? ⟨g, 2, none⟩ = some (.int .u64 lo) := (blk_cell HX.out 2).trans rfl
  rw [rounds_succ]
  go_wp2_with fail
  clear hc
  refine (strconv_Itoa.calls _ _ _ (itoa_b (and255 _)) (HW.out.below HB.out)).mono ?_
  rintro e w2 ⟨rfl, hb⟩
  replace HX := Aside0.mk (blk_below HX.out hb)
  replace HO := Aside0.mk (Kd.R_below HO.out hb)
  replace HB := Aside0.mk (below_step HB.out hb)
  clear hb
  go_wp2_with (first | ((with_reducible refine gate_builtin (b := .append) (xs := #[.tmp 17, .tmp 27]) rfl ?_); at_builtin; refine Kd.R_append Kd.string (w0 := w) w.heap.size rfl (.tmp 17) (.tmp 27) 70 9 (.string ⟨#[]⟩) 16 rfl Tryz.underlying70 info9 rfl (by decide) (by omega) _ [decB (Go.bits .and .u64 (lo / 16777216) 255), decB (Go.bits .and .u64 (lo / 65536) 255), decB (Go.bits .and .u64 (lo / 256) 255)] (decB (Go.bits .and .u64 (lo) 255)) [.string (decB (Go.bits .and .u64 (lo) 255))] (fun _ => True) (fun _ => False) rfl rfl ?aP (fun _ hk => hk.elim) ?aF ?aO ?aB ?aS ?aL ?_; (case aP => exact rfl); (case aB => exact HB.out); (case aF => exact (fun _ _ => trivial)); (case aO => exact HO.out); (case aS => exact (below_size HB.out)); (case aL => simp); intro v3 W3 ho hb hg hat; replace HX := Aside0.mk (blk_apart HX.out (by decide) HO.out hg); replace HB := Aside0.mk hb; replace HO := Aside0.mk ho; clear ho hb hg hat))
  rw [rounds_succ]
  obtain ⟨A, c, e⟩ := Kd.R_slice HO.out
  subst e
  go_wp2_with fail
  refine (strings_Join.calls A c _ _ r _ (Kd.R_reads' HO.out).2.2 (Kd.R_reads' HO.out).2.1 HJ.out).mono ?_
  rintro e w2 ⟨rfl, hb⟩
  replace HB := Aside0.mk (below_step HB.out hb)
  clear hb
  go_wp2_with fail
  exact bodyPost_ret (v := .string r) (by simp [results, Tryz.results62, go_sem]) rfl ⟨rfl, HB.out⟩
theorem and65535 (x : Int) : 0 ≤ Go.bits .and .u64 x 65535 ∧ Go.bits .and .u64 x 65535 < 65536 := by
  unfold Go.bits
  have h1 : ((BitVec.ofInt 64 x) &&& (BitVec.ofInt 64 65535)).toNat < 65536 := by
    rw [BitVec.toNat_and, show (BitVec.ofInt 64 65535).toNat = 2 ^ 16 - 1 from by decide, Nat.and_two_pow_sub_one_eq_mod]
    exact Nat.mod_lt _ (by decide)
  show 0 ≤ IntKind.u64.wrap _ ∧ IntKind.u64.wrap _ < 65536
  rw [IntWalk.u64_in _ ⟨by show (0 : Int) ≤ (((BitVec.ofInt 64 x) &&& (BitVec.ofInt 64 65535)).toNat : Int); omega, by show (((BitVec.ofInt 64 x) &&& (BitVec.ofInt 64 65535)).toNat : Int) ≤ _; omega⟩]
  exact ⟨by show (0 : Int) ≤ (((BitVec.ofInt 64 x) &&& (BitVec.ofInt 64 65535)).toNat : Int); omega, by show (((BitVec.ofInt 64 x) &&& (BitVec.ofInt 64 65535)).toNat : Int) < 65536; omega⟩
def grpL (hi lo : Int) : List Int := [Go.bits .and .u64 (hi / 281474976710656) 65535, Go.bits .and .u64 (hi / 4294967296) 65535, Go.bits .and .u64 (hi / 65536) 65535, Go.bits .and .u64 (hi) 65535, Go.bits .and .u64 (lo / 281474976710656) 65535, Go.bits .and .u64 (lo / 4294967296) 65535, Go.bits .and .u64 (lo / 65536) 65535, Go.bits .and .u64 (lo) 65535]
def fmtT (l : List Int) (p q : Nat) : Nat → Nat → ByteArray → ByteArray
  | 0, _, o => o
  | d + 1, i, o => if i < 8 then (if i = p ∧ 1 < q - p then fmtT l p q d q (o ++ ⟨#[58, 58]⟩) else fmtT l p q d (i + 1) ((if o.toList ≠ [] ∧ Lib.hasSuffix o.data.toList [58] = false then o ++ ⟨#[58]⟩ else o) ++ ⟨(hexL 4 (l.getD i 0).toNat).toArray⟩)) else o
theorem runF_le (l : List Int) : ∀ (d i a b : Nat), a ≤ b → b ≤ 8 → i + d ≤ 8 → (runF l d i (a, b)).1 ≤ (runF l d i (a, b)).2 ∧ (runF l d i (a, b)).2 ≤ 8
  | 0, i, a, b, h1, h2, _ => ⟨h1, h2⟩
  | d + 1, i, a, b, h1, h2, h3 => by
    unfold runF
    split
    · have := zEnd_le l (8 - i) i
      exact runF_le l d (i + 1) _ _ this.1 (by omega) (by omega)
    · exact runF_le l d (i + 1) _ _ h1 h2 (by omega)
theorem runF_ok (l : List Int) : (runF l 8 0 (0, 0)).1 ≤ (runF l 8 0 (0, 0)).2 ∧ (runF l 8 0 (0, 0)).2 ≤ 8 := runF_le l 8 0 0 0 (by omega) (by omega) (by omega)
structure TxtI (l : List Int) (p q gg i : Nat) (o r : ByteArray) : Prop where
  m : 8 - i ≤ gg
  i8 : i ≤ 8
  res : fmtT l p q gg i o = r
  sz : o.size + 8 * gg ≤ 64
theorem TxtI.pos {l : List Int} {p q gg i : Nat} {o r : ByteArray} (h : TxtI l p q gg i o r) (hi : i < 8) : ∃ m, gg = m + 1 := ⟨gg - 1, by have := h.m; omega⟩
theorem TxtI.fin {l : List Int} {p q gg i : Nat} {o r : ByteArray} (h : TxtI l p q gg i o r) (hi : ¬ i < 8) : o = r := by
  have := h.res
  cases gg with
  | zero => exact this
  | succ d => rw [fmtT, if_neg hi] at this; exact this
theorem TxtI.gap {l : List Int} {p q d i : Nat} {o r : ByteArray} (h : TxtI l p q (d + 1) i o r) (hi : i < 8) (hp : i = p) (hq : 1 < q - p) (hq8 : q ≤ 8) : TxtI l p q d q (o ++ ⟨#[58, 58]⟩) r := by
  obtain ⟨h1, h2, h3, h4⟩ := h
  refine ⟨by omega, hq8, ?_, ?_⟩
  · rw [fmtT, if_pos hi, if_pos ⟨hp, hq⟩] at h3; exact h3
  · rw [ByteArray.size_append, show (⟨#[58, 58]⟩ : ByteArray).size = 2 from rfl]; omega
theorem hexL_len : ∀ (k n : Nat), (hexL k n).length ≤ k
  | 0, _ => Nat.le_refl _
  | k + 1, n => by
    unfold hexL
    split
    · simp
    · have := hexL_len k (n / 16); simp; omega
theorem hexL_size (k n : Nat) : (⟨(hexL k n).toArray⟩ : ByteArray).size ≤ k := by
  show (hexL k n).toArray.size ≤ k
  rw [List.size_toArray]
  exact hexL_len k n
theorem TxtI.hexA {l : List Int} {p q d i : Nat} {o r : ByteArray} {x : Int} (hx : l.getD i 0 = x) (h : TxtI l p q (d + 1) i o r) (hi : i < 8) (hp : ¬ (i = p ∧ 1 < q - p)) (hs : ¬ (o.toList ≠ [] ∧ Lib.hasSuffix o.data.toList [58] = false)) : TxtI l p q d (i + 1) (o ++ ⟨(hexL 4 x.toNat).toArray⟩) r := by
  subst hx
  obtain ⟨h1, h2, h3, h4⟩ := h
  refine ⟨by omega, by omega, ?_, ?_⟩
  · rw [fmtT, if_pos hi, if_neg hp, if_neg hs] at h3; exact h3
  · have := hexL_size 4 (l.getD i 0).toNat
    rw [ByteArray.size_append]; omega
theorem TxtI.hexB {l : List Int} {p q d i : Nat} {o r : ByteArray} {x : Int} (hx : l.getD i 0 = x) (h : TxtI l p q (d + 1) i o r) (hi : i < 8) (hp : ¬ (i = p ∧ 1 < q - p)) (hs : o.toList ≠ [] ∧ Lib.hasSuffix o.data.toList [58] = false) : TxtI l p q d (i + 1) (o ++ ⟨#[58]⟩ ++ ⟨(hexL 4 x.toNat).toArray⟩) r := by
  subst hx
  obtain ⟨h1, h2, h3, h4⟩ := h
  refine ⟨by omega, by omega, ?_, ?_⟩
  · rw [fmtT, if_pos hi, if_neg hp, if_pos hs] at h3; exact h3
  · have := hexL_size 4 (l.getD i 0).toNat
    rw [ByteArray.size_append, ByteArray.size_append, show (⟨#[58]⟩ : ByteArray).size = 1 from rfl]; omega
theorem hex_u {x : Int} (h : 0 ≤ x ∧ x < 65536) : strconv_FormatUint.f x 16 = some ⟨(hexL 4 x.toNat).toArray⟩ := by unfold strconv_FormatUint.f; rw [if_pos rfl, if_pos h]
theorem suf_u {o : ByteArray} (h : o.size ≤ 64) : strings_HasSuffix.f o ⟨#[58]⟩ = some (Lib.hasSuffix o.data.toList [58]) := by unfold strings_HasSuffix.f; rw [if_pos (by omega)]
theorem i_eq {i p : Nat} (h : i = p) : ((i : Int) == (p : Int)) = true := by simp [h]
theorem i_ne {i p : Nat} (h : ¬ i = p) : ((i : Int) == (p : Int)) = false := beq_eq_false_iff_ne.mpr (fun e => h (by omega))
theorem i_eqd {i p : Nat} (h : i = p) : decide ((i : Int) = (p : Int)) = true := by simp [h]
theorem i_ned {i p : Nat} (h : ¬ i = p) : decide ((i : Int) = (p : Int)) = false := decide_eq_false (fun e => h (by omega))
theorem q_gt {p q : Nat} (h : 1 < q - p) (h8 : q ≤ 8) : decide (wrap64 ((q : Int) - (p : Int)) > 1) = true := decide_eq_true (by unfold wrap64; omega)
theorem q_ngt {p q : Nat} (h : ¬ 1 < q - p) (h8 : p ≤ q ∧ q ≤ 8) : decide (wrap64 ((q : Int) - (p : Int)) > 1) = false := decide_eq_false (by unfold wrap64; omega)
theorem sz_2 {l : List Int} {p q d i : Nat} {o r : ByteArray} (h : TxtI l p q d i o r) : (9223372036854775807 < o.size + 2) = False := eq_false (by have := h.sz; omega)
theorem sz_1 {l : List Int} {p q d i : Nat} {o r : ByteArray} (h : TxtI l p q d i o r) : (9223372036854775807 < o.size + 1) = False := eq_false (by have := h.sz; omega)
theorem sz_h {l : List Int} {p q d i : Nat} {o t r : ByteArray} (h : TxtI l p q d i (o ++ t) r) : (9223372036854775807 < o.size + t.size) = False := eq_false (by have := h.sz; rw [ByteArray.size_append] at this; omega)
theorem q_next {p q : Nat} (h : 1 < q - p) (h8 : q ≤ 8) : wrap64 (wrap64 ((q : Int) - 1) + 1) = (q : Int) := by unfold wrap64; omega
theorem run_g (hi lo : Int) (w : World) : Calls Tryz.prog 96 #[.agg #[.int .u64 (Go.bits .and .u64 (hi / 281474976710656) 65535), .int .u64 (Go.bits .and .u64 (hi / 4294967296) 65535), .int .u64 (Go.bits .and .u64 (hi / 65536) 65535), .int .u64 (Go.bits .and .u64 (hi) 65535), .int .u64 (Go.bits .and .u64 (lo / 281474976710656) 65535), .int .u64 (Go.bits .and .u64 (lo / 4294967296) 65535), .int .u64 (Go.bits .and .u64 (lo / 65536) 65535), .int .u64 (Go.bits .and .u64 (lo) 65535)]] w fun e w' => e = .returned (.tuple #[.int .i64 ((runF (grpL hi lo) 8 0 (0, 0)).1 : Nat), .int .i64 ((runF (grpL hi lo) 8 0 (0, 0)).2 : Nat)]) ∧ Below w.heap.size w w' := address_run.calls _ _ _ _ _ _ _ _ w
def fmt6 (hi lo : Int) : ByteArray := fmtT (grpL hi lo) (runF (grpL hi lo) 8 0 (0, 0)).1 (runF (grpL hi lo) 8 0 (0, 0)).2 8 0 ⟨#[]⟩
def fmt.T13 : Bool × List (List Nat × List Nat) := (true, [([], []), ([], []), ([1], [1]), ([], []), ([3], [3]), ([], []), ([5], [5]), ([6], [6]), ([4, 7], [4, 7]), ([8], [8]), ([], []), ([10], [10]), ([], []), ([12], [12]), ([13], [13]), ([11, 14], [11, 14]), ([15], [15]), ([0, 0, 3, 4, 5, 6, 7, 8, 9], [0]), ([17, 9, 0, 3, 4, 5, 6, 7, 8, 9], [9, 17]), ([2, 0, 1, 2, 3, 4, 5, 6, 7, 8, 9, 10, 11, 12, 13, 14, 15, 16, 17, 18], [2]), ([19, 16, 18, 0, 1, 2, 3, 4, 5, 6, 7, 8, 9, 10, 11, 12, 13, 14, 15, 16, 17, 18], [16, 19])])
def fmt.B13 : List Nat := [0, 0, 2, 0, 8, 0, 32, 96, 248, 504, 0, 1024, 0, 4096, 12288, 31744, 64512, 1017, 132089, 524287, 1048575]
theorem fmt.tab13 : rtab .any (opsOf Tryz.f62 13) = fmt.T13 := by kernel_rfl
theorem fmt.bits13 : waitsOk fmt.T13.2 fmt.B13 = true := by kernel_rfl
set_option maxHeartbeats 4000000 in
set_option maxRecDepth 100000 in
theorem format6 (hi lo : Int) (w : World) (hW : WOK w) : Calls Tryz.prog 62 #[.agg #[.bool true, .int .u64 hi, .int .u64 lo]] w fun e w' => e = .returned (.string (fmt6 hi lo)) ∧ Below w.heap.size w w' := by
  have HW := Aside0.mk hW
  clear hW
  obtain ⟨r, hr⟩ : ∃ r, fmt6 hi lo = r := ⟨_, rfl⟩
  have HR := Aside0.mk hr
  rw [hr]
  clear hr
  have HX : Aside0 ((w.alloc (.cells #[.bool true, .int .u64 hi, .int .u64 lo] 31)).heap[w.heap.size]? = some (.cells #[.bool true, .int .u64 hi, .int .u64 lo] 31 (0, 0))) := ⟨heap_alloc_new _ _⟩
  have HB : Aside0 (Below w.heap.size w (w.alloc (.cells #[.bool true, .int .u64 hi, .int .u64 lo] 31))) := ⟨below_alloc (Below.refl _ _) _⟩
  go_enter Tryz.func62, Tryz.ntmps62
  go_upto_region 9 with (fail)
  obtain ⟨g, hg⟩ : ∃ g, w.heap.size = g := ⟨_, rfl⟩
  rw [hg] at HX
  simp only [hg]
  clear hg
  generalize w.alloc (.cells #[.bool true, .int .u64 hi, .int .u64 lo] 31) = W at HX HB ⊢
  have HY : Aside0 ((W.alloc (.cells #[.int .u64 0, .int .u64 0, .int .u64 0, .int .u64 0, .int .u64 0, .int .u64 0, .int .u64 0, .int .u64 0] 126)).heap[W.heap.size]? = some (.cells #[.int .u64 0, .int .u64 0, .int .u64 0, .int .u64 0, .int .u64 0, .int .u64 0, .int .u64 0, .int .u64 0] 126 (0, 0))) := ⟨heap_alloc_new _ _⟩
  have HL := Aside0.mk (blk_lt HX.out)
  replace HX := Aside0.mk (blk_alloc HX.out (.cells #[.int .u64 0, .int .u64 0, .int .u64 0, .int .u64 0, .int .u64 0, .int .u64 0, .int .u64 0, .int .u64 0] 126))
  have HG := Aside0.mk HB.out.size
  replace HB := Aside0.mk (below_alloc HB.out (.cells #[.int .u64 0, .int .u64 0, .int .u64 0, .int .u64 0, .int .u64 0, .int .u64 0, .int .u64 0, .int .u64 0] 126))
  go_upto_region 11 with (fail)
  obtain ⟨ga, hga⟩ : ∃ ga, W.heap.size = ga := ⟨_, rfl⟩
  rw [hga] at HY HG HL
  simp only [hga]
  clear hga
  have HN := Aside0.mk (Nat.ne_of_lt HL.out)
  clear HL
  generalize W.alloc (.cells #[.int .u64 0, .int .u64 0, .int .u64 0, .int .u64 0, .int .u64 0, .int .u64 0, .int .u64 0, .int .u64 0] 126) = W0 at HX HY HB ⊢
  refine wp_loop_rounds 5 ?_
  rw [rounds_succ]
  go_upto_region 13 with (fail)
  refine start_ (n := 21) (S := fun w' => w'.cell? ⟨g, 1, none⟩ = some (.int .u64 hi) ∧ w'.cell? ⟨g, 2, none⟩ = some (.int .u64 lo)) (ds := [20]) #[false, false, false, false, false, false, false, false, false, false, false, false, false, false, false, false, false, false, false, false, false] (by kernel_rfl) rfl rfl ⟨(blk_cell (blk_drew HX.out) 1).trans rfl, (blk_cell (blk_drew HX.out) 2).trans rfl⟩ (fun hHeld => ?_)
  refine with_tabW fmt.tab13 fmt.bits13 (fun HT_ HW_ => ?_)
  replace HX := Aside0.mk (blk_drew HX.out)
  replace HY := Aside0.mk (blk_drew HY.out)
  replace HB := Aside0.mk (below_drew1 HB.out)
  generalize W0.drew = V0 at HX HY HB hHeld ⊢
  refine zp 0 35 HT_ ?_; refine zp 1 36 HT_ ?_; refine zp (v := .int .i64 4) 2 37 HT_ ?_ (hy := fun _ => rfl); refine zp 3 38 HT_ ?_; refine zt 4 39 HT_ HW_ hHeld ?_; refine zp 5 40 HT_ ?_; refine zp (v := .int .i64 0) 6 41 HT_ ?_ (hy := fun _ => rfl); refine zp (v := .int .i64 48) 7 42 HT_ ?_ (hy := fun _ => rfl); refine zp 8 43 HT_ ?_; refine zp 9 44 HT_ ?_; refine zp 10 45 HT_ ?_; refine zt 11 46 HT_ HW_ hHeld ?_; refine zp 12 47 HT_ ?_; refine zp (v := .int .i64 0) 13 48 HT_ ?_ (hy := fun _ => rfl); refine zp (v := .int .i64 48) 14 49 HT_ ?_ (hy := fun _ => rfl); refine zp 15 50 HT_ ?_; refine zp 16 51 HT_ ?_; refine zp 17 52 HT_ ?_
  have hc : V0.cell? ⟨ga, 0, none⟩ = some (.int .u64 0) := (blk_cell HY.out 0).trans rfl
  have hf : V0.frozen? ⟨ga, 0, none⟩ = false := blk_frozen HY.out 0
  refine one_ (i := 18) (N := none) #[true, true, true, true, true, true, true, true, true, true, true, true, true, true, true, true, true, true, true, false, false] rfl rfl (one_of HT_.out (by kernel_rfl)) (by decide) (fun K hK => ?_)
  refine skip_ (w1 := V0.setCell ⟨ga, 0, none⟩ (.int .u64 (Go.bits .and .u64 (hi / 281474976710656) 65535))) (by rfl) rfl (by go_simp) ?_
  clear hc hf
  replace HX := Aside0.mk (blk_far HX.out (p := ⟨ga, 0, none⟩) HN.out (.int .u64 (Go.bits .and .u64 (hi / 281474976710656) 65535)))
  replace HY : Aside0 ((V0.setCell ⟨ga, 0, none⟩ (.int .u64 (Go.bits .and .u64 (hi / 281474976710656) 65535))).heap[ga]? = some (.cells #[.int .u64 (Go.bits .and .u64 (hi / 281474976710656) 65535), .int .u64 0, .int .u64 0, .int .u64 0, .int .u64 0, .int .u64 0, .int .u64 0, .int .u64 0] 126 (0, 0))) := ⟨blk_put (cs := #[.int .u64 0, .int .u64 0, .int .u64 0, .int .u64 0, .int .u64 0, .int .u64 0, .int .u64 0, .int .u64 0]) HY.out 0 _ rfl⟩
  replace HB := Aside0.mk (HB.out.setCell (p := ⟨ga, 0, none⟩) HG.out (.int .u64 (Go.bits .and .u64 (hi / 281474976710656) 65535)))
  generalize V0.setCell ⟨ga, 0, none⟩ (.int .u64 (Go.bits .and .u64 (hi / 281474976710656) 65535)) = U0 at HX HY HB ⊢
  refine hK.out _ _ ⟨(blk_cell HX.out 1).trans rfl, (blk_cell HX.out 2).trans rfl⟩ (fun _ => ?_)
  clear hK K
  refine zp 19 53 HT_ ?_
  have hc : U0.cell? ⟨ga, 4, none⟩ = some (.int .u64 0) := (blk_cell HY.out 4).trans rfl
  have hf : U0.frozen? ⟨ga, 4, none⟩ = false := blk_frozen HY.out 4
  refine last_ (i := 20) (N := none) #[true, true, true, true, true, true, true, true, true, true, true, true, true, true, true, true, true, true, true, true, true] rfl rfl (one_of HT_.out (by kernel_rfl)) (by decide) (fun K hK => ?_)
  refine skip_ (w1 := U0.setCell ⟨ga, 4, none⟩ (.int .u64 (Go.bits .and .u64 (lo / 281474976710656) 65535))) (by rfl) rfl (by go_simp) ?_
  clear hc hf
  replace HX := Aside0.mk (blk_far HX.out (p := ⟨ga, 4, none⟩) HN.out (.int .u64 (Go.bits .and .u64 (lo / 281474976710656) 65535)))
  replace HY : Aside0 ((U0.setCell ⟨ga, 4, none⟩ (.int .u64 (Go.bits .and .u64 (lo / 281474976710656) 65535))).heap[ga]? = some (.cells #[.int .u64 (Go.bits .and .u64 (hi / 281474976710656) 65535), .int .u64 0, .int .u64 0, .int .u64 0, .int .u64 (Go.bits .and .u64 (lo / 281474976710656) 65535), .int .u64 0, .int .u64 0, .int .u64 0] 126 (0, 0))) := ⟨blk_put (cs := #[.int .u64 (Go.bits .and .u64 (hi / 281474976710656) 65535), .int .u64 0, .int .u64 0, .int .u64 0, .int .u64 0, .int .u64 0, .int .u64 0, .int .u64 0]) HY.out 4 _ rfl⟩
  replace HB := Aside0.mk (HB.out.setCell (p := ⟨ga, 4, none⟩) HG.out (.int .u64 (Go.bits .and .u64 (lo / 281474976710656) 65535)))
  generalize U0.setCell ⟨ga, 4, none⟩ (.int .u64 (Go.bits .and .u64 (lo / 281474976710656) 65535)) = W1 at HX HY HB ⊢
  refine hK.out _ _ ?_
  clear hK K
  refine zd HT_ ?_
  clear hHeld HT_ HW_
  go_wp2_with fail
  rw [rounds_succ]
  go_upto_region 13 with (fail)
  refine start_ (n := 21) (S := fun w' => w'.cell? ⟨g, 1, none⟩ = some (.int .u64 hi) ∧ w'.cell? ⟨g, 2, none⟩ = some (.int .u64 lo)) (ds := [20]) #[false, false, false, false, false, false, false, false, false, false, false, false, false, false, false, false, false, false, false, false, false] (by kernel_rfl) rfl rfl ⟨(blk_cell (blk_drew HX.out) 1).trans rfl, (blk_cell (blk_drew HX.out) 2).trans rfl⟩ (fun hHeld => ?_)
  refine with_tabW fmt.tab13 fmt.bits13 (fun HT_ HW_ => ?_)
  replace HX := Aside0.mk (blk_drew HX.out)
  replace HY := Aside0.mk (blk_drew HY.out)
  replace HB := Aside0.mk (below_drew1 HB.out)
  generalize W1.drew = V1 at HX HY HB hHeld ⊢
  refine zp 0 35 HT_ ?_; refine zp 1 36 HT_ ?_; refine zp (v := .int .i64 5) 2 37 HT_ ?_ (hy := fun _ => rfl); refine zp 3 38 HT_ ?_; refine zt 4 39 HT_ HW_ hHeld ?_; refine zp 5 40 HT_ ?_; refine zp (v := .int .i64 16) 6 41 HT_ ?_ (hy := fun _ => rfl); refine zp (v := .int .i64 32) 7 42 HT_ ?_ (hy := fun _ => rfl); refine zp 8 43 HT_ ?_; refine zp 9 44 HT_ ?_; refine zp 10 45 HT_ ?_; refine zt 11 46 HT_ HW_ hHeld ?_; refine zp 12 47 HT_ ?_; refine zp (v := .int .i64 16) 13 48 HT_ ?_ (hy := fun _ => rfl); refine zp (v := .int .i64 32) 14 49 HT_ ?_ (hy := fun _ => rfl); refine zp 15 50 HT_ ?_; refine zp 16 51 HT_ ?_; refine zp 17 52 HT_ ?_
  have hc : V1.cell? ⟨ga, 1, none⟩ = some (.int .u64 0) := (blk_cell HY.out 1).trans rfl
  have hf : V1.frozen? ⟨ga, 1, none⟩ = false := blk_frozen HY.out 1
  refine one_ (i := 18) (N := none) #[true, true, true, true, true, true, true, true, true, true, true, true, true, true, true, true, true, true, true, false, false] rfl rfl (one_of HT_.out (by kernel_rfl)) (by decide) (fun K hK => ?_)
  refine skip_ (w1 := V1.setCell ⟨ga, 1, none⟩ (.int .u64 (Go.bits .and .u64 (hi / 4294967296) 65535))) (by rfl) rfl (by go_simp) ?_
  clear hc hf
  replace HX := Aside0.mk (blk_far HX.out (p := ⟨ga, 1, none⟩) HN.out (.int .u64 (Go.bits .and .u64 (hi / 4294967296) 65535)))
  replace HY : Aside0 ((V1.setCell ⟨ga, 1, none⟩ (.int .u64 (Go.bits .and .u64 (hi / 4294967296) 65535))).heap[ga]? = some (.cells #[.int .u64 (Go.bits .and .u64 (hi / 281474976710656) 65535), .int .u64 (Go.bits .and .u64 (hi / 4294967296) 65535), .int .u64 0, .int .u64 0, .int .u64 (Go.bits .and .u64 (lo / 281474976710656) 65535), .int .u64 0, .int .u64 0, .int .u64 0] 126 (0, 0))) := ⟨blk_put (cs := #[.int .u64 (Go.bits .and .u64 (hi / 281474976710656) 65535), .int .u64 0, .int .u64 0, .int .u64 0, .int .u64 (Go.bits .and .u64 (lo / 281474976710656) 65535), .int .u64 0, .int .u64 0, .int .u64 0]) HY.out 1 _ rfl⟩
  replace HB := Aside0.mk (HB.out.setCell (p := ⟨ga, 1, none⟩) HG.out (.int .u64 (Go.bits .and .u64 (hi / 4294967296) 65535)))
  generalize V1.setCell ⟨ga, 1, none⟩ (.int .u64 (Go.bits .and .u64 (hi / 4294967296) 65535)) = U1 at HX HY HB ⊢
  refine hK.out _ _ ⟨(blk_cell HX.out 1).trans rfl, (blk_cell HX.out 2).trans rfl⟩ (fun _ => ?_)
  clear hK K
  refine zp 19 53 HT_ ?_
  have hc : U1.cell? ⟨ga, 5, none⟩ = some (.int .u64 0) := (blk_cell HY.out 5).trans rfl
  have hf : U1.frozen? ⟨ga, 5, none⟩ = false := blk_frozen HY.out 5
  refine last_ (i := 20) (N := none) #[true, true, true, true, true, true, true, true, true, true, true, true, true, true, true, true, true, true, true, true, true] rfl rfl (one_of HT_.out (by kernel_rfl)) (by decide) (fun K hK => ?_)
  refine skip_ (w1 := U1.setCell ⟨ga, 5, none⟩ (.int .u64 (Go.bits .and .u64 (lo / 4294967296) 65535))) (by rfl) rfl (by go_simp) ?_
  clear hc hf
  replace HX := Aside0.mk (blk_far HX.out (p := ⟨ga, 5, none⟩) HN.out (.int .u64 (Go.bits .and .u64 (lo / 4294967296) 65535)))
  replace HY : Aside0 ((U1.setCell ⟨ga, 5, none⟩ (.int .u64 (Go.bits .and .u64 (lo / 4294967296) 65535))).heap[ga]? = some (.cells #[.int .u64 (Go.bits .and .u64 (hi / 281474976710656) 65535), .int .u64 (Go.bits .and .u64 (hi / 4294967296) 65535), .int .u64 0, .int .u64 0, .int .u64 (Go.bits .and .u64 (lo / 281474976710656) 65535), .int .u64 (Go.bits .and .u64 (lo / 4294967296) 65535), .int .u64 0, .int .u64 0] 126 (0, 0))) := ⟨blk_put (cs := #[.int .u64 (Go.bits .and .u64 (hi / 281474976710656) 65535), .int .u64 (Go.bits .and .u64 (hi / 4294967296) 65535), .int .u64 0, .int .u64 0, .int .u64 (Go.bits .and .u64 (lo / 281474976710656) 65535), .int .u64 0, .int .u64 0, .int .u64 0]) HY.out 5 _ rfl⟩
  replace HB := Aside0.mk (HB.out.setCell (p := ⟨ga, 5, none⟩) HG.out (.int .u64 (Go.bits .and .u64 (lo / 4294967296) 65535)))
  generalize U1.setCell ⟨ga, 5, none⟩ (.int .u64 (Go.bits .and .u64 (lo / 4294967296) 65535)) = W2 at HX HY HB ⊢
  refine hK.out _ _ ?_
  clear hK K
  refine zd HT_ ?_
  clear hHeld HT_ HW_
  go_wp2_with fail
  rw [rounds_succ]
  go_upto_region 13 with (fail)
  refine start_ (n := 21) (S := fun w' => w'.cell? ⟨g, 1, none⟩ = some (.int .u64 hi) ∧ w'.cell? ⟨g, 2, none⟩ = some (.int .u64 lo)) (ds := [20]) #[false, false, false, false, false, false, false, false, false, false, false, false, false, false, false, false, false, false, false, false, false] (by kernel_rfl) rfl rfl ⟨(blk_cell (blk_drew HX.out) 1).trans rfl, (blk_cell (blk_drew HX.out) 2).trans rfl⟩ (fun hHeld => ?_)
  refine with_tabW fmt.tab13 fmt.bits13 (fun HT_ HW_ => ?_)
  replace HX := Aside0.mk (blk_drew HX.out)
  replace HY := Aside0.mk (blk_drew HY.out)
  replace HB := Aside0.mk (below_drew1 HB.out)
  generalize W2.drew = V2 at HX HY HB hHeld ⊢
  refine zp 0 35 HT_ ?_; refine zp 1 36 HT_ ?_; refine zp (v := .int .i64 6) 2 37 HT_ ?_ (hy := fun _ => rfl); refine zp 3 38 HT_ ?_; refine zt 4 39 HT_ HW_ hHeld ?_; refine zp 5 40 HT_ ?_; refine zp (v := .int .i64 32) 6 41 HT_ ?_ (hy := fun _ => rfl); refine zp (v := .int .i64 16) 7 42 HT_ ?_ (hy := fun _ => rfl); refine zp 8 43 HT_ ?_; refine zp 9 44 HT_ ?_; refine zp 10 45 HT_ ?_; refine zt 11 46 HT_ HW_ hHeld ?_; refine zp 12 47 HT_ ?_; refine zp (v := .int .i64 32) 13 48 HT_ ?_ (hy := fun _ => rfl); refine zp (v := .int .i64 16) 14 49 HT_ ?_ (hy := fun _ => rfl); refine zp 15 50 HT_ ?_; refine zp 16 51 HT_ ?_; refine zp 17 52 HT_ ?_
  have hc : V2.cell? ⟨ga, 2, none⟩ = some (.int .u64 0) := (blk_cell HY.out 2).trans rfl
  have hf : V2.frozen? ⟨ga, 2, none⟩ = false := blk_frozen HY.out 2
  refine one_ (i := 18) (N := none) #[true, true, true, true, true, true, true, true, true, true, true, true, true, true, true, true, true, true, true, false, false] rfl rfl (one_of HT_.out (by kernel_rfl)) (by decide) (fun K hK => ?_)
  refine skip_ (w1 := V2.setCell ⟨ga, 2, none⟩ (.int .u64 (Go.bits .and .u64 (hi / 65536) 65535))) (by rfl) rfl (by go_simp) ?_
  clear hc hf
  replace HX := Aside0.mk (blk_far HX.out (p := ⟨ga, 2, none⟩) HN.out (.int .u64 (Go.bits .and .u64 (hi / 65536) 65535)))
  replace HY : Aside0 ((V2.setCell ⟨ga, 2, none⟩ (.int .u64 (Go.bits .and .u64 (hi / 65536) 65535))).heap[ga]? = some (.cells #[.int .u64 (Go.bits .and .u64 (hi / 281474976710656) 65535), .int .u64 (Go.bits .and .u64 (hi / 4294967296) 65535), .int .u64 (Go.bits .and .u64 (hi / 65536) 65535), .int .u64 0, .int .u64 (Go.bits .and .u64 (lo / 281474976710656) 65535), .int .u64 (Go.bits .and .u64 (lo / 4294967296) 65535), .int .u64 0, .int .u64 0] 126 (0, 0))) := ⟨blk_put (cs := #[.int .u64 (Go.bits .and .u64 (hi / 281474976710656) 65535), .int .u64 (Go.bits .and .u64 (hi / 4294967296) 65535), .int .u64 0, .int .u64 0, .int .u64 (Go.bits .and .u64 (lo / 281474976710656) 65535), .int .u64 (Go.bits .and .u64 (lo / 4294967296) 65535), .int .u64 0, .int .u64 0]) HY.out 2 _ rfl⟩
  replace HB := Aside0.mk (HB.out.setCell (p := ⟨ga, 2, none⟩) HG.out (.int .u64 (Go.bits .and .u64 (hi / 65536) 65535)))
  generalize V2.setCell ⟨ga, 2, none⟩ (.int .u64 (Go.bits .and .u64 (hi / 65536) 65535)) = U2 at HX HY HB ⊢
  refine hK.out _ _ ⟨(blk_cell HX.out 1).trans rfl, (blk_cell HX.out 2).trans rfl⟩ (fun _ => ?_)
  clear hK K
  refine zp 19 53 HT_ ?_
  have hc : U2.cell? ⟨ga, 6, none⟩ = some (.int .u64 0) := (blk_cell HY.out 6).trans rfl
  have hf : U2.frozen? ⟨ga, 6, none⟩ = false := blk_frozen HY.out 6
  refine last_ (i := 20) (N := none) #[true, true, true, true, true, true, true, true, true, true, true, true, true, true, true, true, true, true, true, true, true] rfl rfl (one_of HT_.out (by kernel_rfl)) (by decide) (fun K hK => ?_)
  refine skip_ (w1 := U2.setCell ⟨ga, 6, none⟩ (.int .u64 (Go.bits .and .u64 (lo / 65536) 65535))) (by rfl) rfl (by go_simp) ?_
  clear hc hf
  replace HX := Aside0.mk (blk_far HX.out (p := ⟨ga, 6, none⟩) HN.out (.int .u64 (Go.bits .and .u64 (lo / 65536) 65535)))
  replace HY : Aside0 ((U2.setCell ⟨ga, 6, none⟩ (.int .u64 (Go.bits .and .u64 (lo / 65536) 65535))).heap[ga]? = some (.cells #[.int .u64 (Go.bits .and .u64 (hi / 281474976710656) 65535), .int .u64 (Go.bits .and .u64 (hi / 4294967296) 65535), .int .u64 (Go.bits .and .u64 (hi / 65536) 65535), .int .u64 0, .int .u64 (Go.bits .and .u64 (lo / 281474976710656) 65535), .int .u64 (Go.bits .and .u64 (lo / 4294967296) 65535), .int .u64 (Go.bits .and .u64 (lo / 65536) 65535), .int .u64 0] 126 (0, 0))) := ⟨blk_put (cs := #[.int .u64 (Go.bits .and .u64 (hi / 281474976710656) 65535), .int .u64 (Go.bits .and .u64 (hi / 4294967296) 65535), .int .u64 (Go.bits .and .u64 (hi / 65536) 65535), .int .u64 0, .int .u64 (Go.bits .and .u64 (lo / 281474976710656) 65535), .int .u64 (Go.bits .and .u64 (lo / 4294967296) 65535), .int .u64 0, .int .u64 0]) HY.out 6 _ rfl⟩
  replace HB := Aside0.mk (HB.out.setCell (p := ⟨ga, 6, none⟩) HG.out (.int .u64 (Go.bits .and .u64 (lo / 65536) 65535)))
  generalize U2.setCell ⟨ga, 6, none⟩ (.int .u64 (Go.bits .and .u64 (lo / 65536) 65535)) = W3 at HX HY HB ⊢
  refine hK.out _ _ ?_
  clear hK K
  refine zd HT_ ?_
  clear hHeld HT_ HW_
  go_wp2_with fail
  rw [rounds_succ]
  go_upto_region 13 with (fail)
  refine start_ (n := 21) (S := fun w' => w'.cell? ⟨g, 1, none⟩ = some (.int .u64 hi) ∧ w'.cell? ⟨g, 2, none⟩ = some (.int .u64 lo)) (ds := [20]) #[false, false, false, false, false, false, false, false, false, false, false, false, false, false, false, false, false, false, false, false, false] (by kernel_rfl) rfl rfl ⟨(blk_cell (blk_drew HX.out) 1).trans rfl, (blk_cell (blk_drew HX.out) 2).trans rfl⟩ (fun hHeld => ?_)
  refine with_tabW fmt.tab13 fmt.bits13 (fun HT_ HW_ => ?_)
  replace HX := Aside0.mk (blk_drew HX.out)
  replace HY := Aside0.mk (blk_drew HY.out)
  replace HB := Aside0.mk (below_drew1 HB.out)
  generalize W3.drew = V3 at HX HY HB hHeld ⊢
  refine zp 0 35 HT_ ?_; refine zp 1 36 HT_ ?_; refine zp (v := .int .i64 7) 2 37 HT_ ?_ (hy := fun _ => rfl); refine zp 3 38 HT_ ?_; refine zt 4 39 HT_ HW_ hHeld ?_; refine zp 5 40 HT_ ?_; refine zp (v := .int .i64 48) 6 41 HT_ ?_ (hy := fun _ => rfl); refine zp (v := .int .i64 0) 7 42 HT_ ?_ (hy := fun _ => rfl); refine zp 8 43 HT_ ?_; refine zp 9 44 HT_ ?_; refine zp 10 45 HT_ ?_; refine zt 11 46 HT_ HW_ hHeld ?_; refine zp 12 47 HT_ ?_; refine zp (v := .int .i64 48) 13 48 HT_ ?_ (hy := fun _ => rfl); refine zp (v := .int .i64 0) 14 49 HT_ ?_ (hy := fun _ => rfl); refine zp 15 50 HT_ ?_; refine zp 16 51 HT_ ?_; refine zp 17 52 HT_ ?_
  have hc : V3.cell? ⟨ga, 3, none⟩ = some (.int .u64 0) := (blk_cell HY.out 3).trans rfl
  have hf : V3.frozen? ⟨ga, 3, none⟩ = false := blk_frozen HY.out 3
  refine one_ (i := 18) (N := none) #[true, true, true, true, true, true, true, true, true, true, true, true, true, true, true, true, true, true, true, false, false] rfl rfl (one_of HT_.out (by kernel_rfl)) (by decide) (fun K hK => ?_)
  refine skip_ (w1 := V3.setCell ⟨ga, 3, none⟩ (.int .u64 (Go.bits .and .u64 (hi) 65535))) (by rfl) rfl (by go_simp) ?_
  clear hc hf
  replace HX := Aside0.mk (blk_far HX.out (p := ⟨ga, 3, none⟩) HN.out (.int .u64 (Go.bits .and .u64 (hi) 65535)))
  replace HY : Aside0 ((V3.setCell ⟨ga, 3, none⟩ (.int .u64 (Go.bits .and .u64 (hi) 65535))).heap[ga]? = some (.cells #[.int .u64 (Go.bits .and .u64 (hi / 281474976710656) 65535), .int .u64 (Go.bits .and .u64 (hi / 4294967296) 65535), .int .u64 (Go.bits .and .u64 (hi / 65536) 65535), .int .u64 (Go.bits .and .u64 (hi) 65535), .int .u64 (Go.bits .and .u64 (lo / 281474976710656) 65535), .int .u64 (Go.bits .and .u64 (lo / 4294967296) 65535), .int .u64 (Go.bits .and .u64 (lo / 65536) 65535), .int .u64 0] 126 (0, 0))) := ⟨blk_put (cs := #[.int .u64 (Go.bits .and .u64 (hi / 281474976710656) 65535), .int .u64 (Go.bits .and .u64 (hi / 4294967296) 65535), .int .u64 (Go.bits .and .u64 (hi / 65536) 65535), .int .u64 0, .int .u64 (Go.bits .and .u64 (lo / 281474976710656) 65535), .int .u64 (Go.bits .and .u64 (lo / 4294967296) 65535), .int .u64 (Go.bits .and .u64 (lo / 65536) 65535), .int .u64 0]) HY.out 3 _ rfl⟩
  replace HB := Aside0.mk (HB.out.setCell (p := ⟨ga, 3, none⟩) HG.out (.int .u64 (Go.bits .and .u64 (hi) 65535)))
  generalize V3.setCell ⟨ga, 3, none⟩ (.int .u64 (Go.bits .and .u64 (hi) 65535)) = U3 at HX HY HB ⊢
  refine hK.out _ _ ⟨(blk_cell HX.out 1).trans rfl, (blk_cell HX.out 2).trans rfl⟩ (fun _ => ?_)
  clear hK K
  refine zp 19 53 HT_ ?_
  have hc : U3.cell? ⟨ga, 7, none⟩ = some (.int .u64 0) := (blk_cell HY.out 7).trans rfl
  have hf : U3.frozen? ⟨ga, 7, none⟩ = false := blk_frozen HY.out 7
  refine last_ (i := 20) (N := none) #[true, true, true, true, true, true, true, true, true, true, true, true, true, true, true, true, true, true, true, true, true] rfl rfl (one_of HT_.out (by kernel_rfl)) (by decide) (fun K hK => ?_)
  refine skip_ (w1 := U3.setCell ⟨ga, 7, none⟩ (.int .u64 (Go.bits .and .u64 (lo) 65535))) (by rfl) rfl (by go_simp) ?_
  clear hc hf
  replace HX := Aside0.mk (blk_far HX.out (p := ⟨ga, 7, none⟩) HN.out (.int .u64 (Go.bits .and .u64 (lo) 65535)))
  replace HY : Aside0 ((U3.setCell ⟨ga, 7, none⟩ (.int .u64 (Go.bits .and .u64 (lo) 65535))).heap[ga]? = some (.cells #[.int .u64 (Go.bits .and .u64 (hi / 281474976710656) 65535), .int .u64 (Go.bits .and .u64 (hi / 4294967296) 65535), .int .u64 (Go.bits .and .u64 (hi / 65536) 65535), .int .u64 (Go.bits .and .u64 (hi) 65535), .int .u64 (Go.bits .and .u64 (lo / 281474976710656) 65535), .int .u64 (Go.bits .and .u64 (lo / 4294967296) 65535), .int .u64 (Go.bits .and .u64 (lo / 65536) 65535), .int .u64 (Go.bits .and .u64 (lo) 65535)] 126 (0, 0))) := ⟨blk_put (cs := #[.int .u64 (Go.bits .and .u64 (hi / 281474976710656) 65535), .int .u64 (Go.bits .and .u64 (hi / 4294967296) 65535), .int .u64 (Go.bits .and .u64 (hi / 65536) 65535), .int .u64 (Go.bits .and .u64 (hi) 65535), .int .u64 (Go.bits .and .u64 (lo / 281474976710656) 65535), .int .u64 (Go.bits .and .u64 (lo / 4294967296) 65535), .int .u64 (Go.bits .and .u64 (lo / 65536) 65535), .int .u64 0]) HY.out 7 _ rfl⟩
  replace HB := Aside0.mk (HB.out.setCell (p := ⟨ga, 7, none⟩) HG.out (.int .u64 (Go.bits .and .u64 (lo) 65535)))
  generalize U3.setCell ⟨ga, 7, none⟩ (.int .u64 (Go.bits .and .u64 (lo) 65535)) = W4 at HX HY HB ⊢
  refine hK.out _ _ ?_
  clear hK K
  refine zd HT_ ?_
  clear hHeld HT_ HW_
  go_wp2_with fail
  rw [rounds_succ]
  have hc0 : W4.cell? ⟨ga, 0, none⟩ = some (.int .u64 (Go.bits .and .u64 (hi / 281474976710656) 65535)) := (blk_cell HY.out 0).trans rfl
  have hc1 : W4.cell? ⟨ga, 1, none⟩ = some (.int .u64 (Go.bits .and .u64 (hi / 4294967296) 65535)) := (blk_cell HY.out 1).trans rfl
  have hc2 : W4.cell? ⟨ga, 2, none⟩ = some (.int .u64 (Go.bits .and .u64 (hi / 65536) 65535)) := (blk_cell HY.out 2).trans rfl
  have hc3 : W4.cell? ⟨ga, 3, none⟩ = some (.int .u64 (Go.bits .and .u64 (hi) 65535)) := (blk_cell HY.out 3).trans rfl
  have hc4 : W4.cell? ⟨ga, 4, none⟩ = some (.int .u64 (Go.bits .and .u64 (lo / 281474976710656) 65535)) := (blk_cell HY.out 4).trans rfl
  have hc5 : W4.cell? ⟨ga, 5, none⟩ = some (.int .u64 (Go.bits .and .u64 (lo / 4294967296) 65535)) := (blk_cell HY.out 5).trans rfl
  have hc6 : W4.cell? ⟨ga, 6, none⟩ = some (.int .u64 (Go.bits .and .u64 (lo / 65536) 65535)) := (blk_cell HY.out 6).trans rfl
  have hc7 : W4.cell? ⟨ga, 7, none⟩ = some (.int .u64 (Go.bits .and .u64 (lo) 65535)) := (blk_cell HY.out 7).trans rfl
  go_wp2_with fail
  clear hc0 hc1 hc2 hc3 hc4 hc5 hc6 hc7
  refine (run_g hi lo _).mono ?_
  rintro e w2 ⟨rfl, hb⟩
  replace HX := Aside0.mk (blk_below HX.out hb)
  replace HY := Aside0.mk (blk_below HY.out hb)
  replace HB := Aside0.mk (below_step HB.out hb)
  clear hb
  have HC : Aside0 (∀ k : Nat, k < 8 → (#[.int .u64 (Go.bits .and .u64 (hi / 281474976710656) 65535), .int .u64 (Go.bits .and .u64 (hi / 4294967296) 65535), .int .u64 (Go.bits .and .u64 (hi / 65536) 65535), .int .u64 (Go.bits .and .u64 (hi) 65535), .int .u64 (Go.bits .and .u64 (lo / 281474976710656) 65535), .int .u64 (Go.bits .and .u64 (lo / 4294967296) 65535), .int .u64 (Go.bits .and .u64 (lo / 65536) 65535), .int .u64 (Go.bits .and .u64 (lo) 65535)] : Array Value)[k]? = some (.int .u64 ((grpL hi lo).getD k 0))) := ⟨fun k hk => by
    rcases k with _ | _ | _ | _ | _ | _ | _ | _ | k <;> first | omega | rfl⟩
  have HH : Aside0 (∀ k : Nat, k < 8 → 0 ≤ (grpL hi lo).getD k 0 ∧ (grpL hi lo).getD k 0 < 65536) := ⟨fun k hk => by
    rcases k with _ | _ | _ | _ | _ | _ | _ | _ | k <;> first | omega | exact and65535 _⟩
  have HP := Aside0.mk (runF_ok (grpL hi lo))
  have H0 : Aside0 (TxtI (grpL hi lo) (runF (grpL hi lo) 8 0 (0, 0)).1 (runF (grpL hi lo) 8 0 (0, 0)).2 8 0 ⟨#[]⟩ r) := ⟨⟨by omega, by omega, HR.out, by decide⟩⟩
  clear HR
  generalize grpL hi lo = l at HC HH HP H0 ⊢
  generalize (#[.int .u64 (Go.bits .and .u64 (hi / 281474976710656) 65535), .int .u64 (Go.bits .and .u64 (hi / 4294967296) 65535), .int .u64 (Go.bits .and .u64 (hi / 65536) 65535), .int .u64 (Go.bits .and .u64 (hi) 65535), .int .u64 (Go.bits .and .u64 (lo / 281474976710656) 65535), .int .u64 (Go.bits .and .u64 (lo / 4294967296) 65535), .int .u64 (Go.bits .and .u64 (lo / 65536) 65535), .int .u64 (Go.bits .and .u64 (lo) 65535)] : Array Value) = C at HC HY
  obtain ⟨pq, hpq⟩ : ∃ pq, runF l 8 0 (0, 0) = pq := ⟨_, rfl⟩
  rw [hpq] at HP H0
  simp only [hpq]
  clear hpq
  obtain ⟨p, q⟩ := pq
  dsimp only at HP H0 ⊢
  go_wp2_with fail
  go_loopg [9, 10] 8 (fun gg v9 v10 wr => ∃ (i : Nat) (o : ByteArray), v9 = .string o ∧ v10 = .int .i64 (i : Int) ∧ Aside0 (TxtI l p q gg i o r) ∧ Aside0 (wr.heap[ga]? = some (.cells C 126 (0, 0))) ∧ Aside0 (Below w.heap.size w wr))
  case atStart => exact ⟨0, _, rfl, rfl, H0, HY, HB⟩
  case round =>
    obtain ⟨i, o, rfl, rfl, HT, HY, HB⟩ := hrel
    clear H0
    by_cases hi8 : i < 8
    · obtain ⟨m, rfl⟩ := HT.out.pos hi8
      have hlt := r_lt hi8
      have hlt2 := r_ltd hi8
      have hc : wr.cell? ⟨ga, i, none⟩ = some (.int .u64 (l.getD i 0)) := (blk_cell HY.out i).trans (HC.out i hi8)
      have HV := Aside0.mk (HH.out i hi8)
      obtain ⟨x, hx⟩ : ∃ x, l.getD i 0 = x := ⟨_, rfl⟩
      rw [hx] at hc HV
      have HS := Aside0.mk (r_suc (Nat.le_of_lt hi8))
      have HE := Aside0.mk hx
      clear hx
      have HI := Aside0.mk hi8
      clear hi8
      by_cases hip : i = p
      · have he1 := i_eq hip
        have he2 := i_eqd hip
        by_cases hq : 1 < q - p
        · have hg1 := q_gt hq HP.out.2
          have HN := Aside0.mk (HT.out.gap HI.out hip hq HP.out.2)
          have hs2 := sz_2 HT.out
          have HS2 := Aside0.mk (q_next hq HP.out.2)
          clear hip hq
          go_wp2_with fail
          go_roundg m
          case measure => exact Nat.lt_succ_self m
          case rel => exact ⟨q, _, rfl, by rw [HS2.out], HN, HY, HB⟩
        · have hg1 := q_ngt hq HP.out
          have HNP : Aside0 (¬ (i = p ∧ 1 < q - p)) := ⟨fun h => hq h.2⟩
          clear hip hq
          by_cases ho : o.toList = []
          · have ho1 : (o.toList == ([] : List UInt8)) = true := beq_iff_eq.mpr ho
            have ho2 : (o.toList != ([] : List UInt8)) = false := bne_eq_false_iff_eq.mpr ho
            have HN := Aside0.mk (HT.out.hexA HE.out HI.out HNP.out (fun h => h.1 ho))
            clear ho
            go_wp2_with fail
            refine (strconv_FormatUint.calls _ _ _ _ (hex_u HV.out) (HW.out.below HB.out)).mono ?_
            rintro e w4 ⟨rfl, hb⟩
            replace HY := Aside0.mk (blk_below HY.out hb)
            replace HB := Aside0.mk (below_step HB.out hb)
            clear hb
            generalize (⟨(hexL 4 x.toNat).toArray⟩ : ByteArray) = hx at HN ⊢
            have hs4 := sz_h HN.out
            try rw [ByteArray.size_append, show (⟨#[58]⟩ : ByteArray).size = 1 from rfl] at hs4
            go_wp2_with fail
            go_roundg m
            case measure => exact Nat.lt_succ_self m
            case rel => exact ⟨i + 1, _, rfl, by rw [HS.out], HN, HY, HB⟩
          · have ho1 : (o.toList == ([] : List UInt8)) = false := beq_eq_false_iff_ne.mpr ho
            have ho2 : (o.toList != ([] : List UInt8)) = true := bne_iff_ne.mpr ho
            have HO := Aside0.mk ho
            clear ho
            go_wp2_with fail
            refine (strings_HasSuffix.calls _ _ _ _ (suf_u (Nat.le_trans (Nat.le_add_right _ _) HT.out.sz))).mono ?_
            rintro e w3 ⟨rfl, hb⟩
            replace HY := Aside0.mk (blk_below HY.out hb)
            replace HB := Aside0.mk (below_step HB.out hb)
            clear hb hc
            have hc : w3.cell? ⟨ga, i, none⟩ = some (.int .u64 x) := (blk_cell HY.out i).trans ((HC.out i HI.out).trans (by rw [HE.out]))
            cases hs : Lib.hasSuffix o.data.toList [58] with
            | true =>
              have HN := Aside0.mk (HT.out.hexA HE.out HI.out HNP.out (fun h => Bool.noConfusion (hs.symm.trans h.2)))
              clear hs
              go_wp2_with fail
              refine (strconv_FormatUint.calls _ _ _ _ (hex_u HV.out) (HW.out.below HB.out)).mono ?_
              rintro e w4 ⟨rfl, hb⟩
              replace HY := Aside0.mk (blk_below HY.out hb)
              replace HB := Aside0.mk (below_step HB.out hb)
              clear hb
              generalize (⟨(hexL 4 x.toNat).toArray⟩ : ByteArray) = hx at HN ⊢
              have hs4 := sz_h HN.out
              try rw [ByteArray.size_append, show (⟨#[58]⟩ : ByteArray).size = 1 from rfl] at hs4
              go_wp2_with fail
              go_roundg m
              case measure => exact Nat.lt_succ_self m
              case rel => exact ⟨i + 1, _, rfl, by rw [HS.out], HN, HY, HB⟩
            | false =>
              have HN := Aside0.mk (HT.out.hexB HE.out HI.out HNP.out ⟨HO.out, hs⟩)
              have hs1 := sz_1 HT.out
              clear hs
              go_wp2_with fail
              refine (strconv_FormatUint.calls _ _ _ _ (hex_u HV.out) (HW.out.below HB.out)).mono ?_
              rintro e w4 ⟨rfl, hb⟩
              replace HY := Aside0.mk (blk_below HY.out hb)
              replace HB := Aside0.mk (below_step HB.out hb)
              clear hb
              generalize (⟨(hexL 4 x.toNat).toArray⟩ : ByteArray) = hx at HN ⊢
              have hs4 := sz_h HN.out
              try rw [ByteArray.size_append, show (⟨#[58]⟩ : ByteArray).size = 1 from rfl] at hs4
              go_wp2_with fail
              go_roundg m
              case measure => exact Nat.lt_succ_self m
              case rel => exact ⟨i + 1, _, rfl, by rw [HS.out], HN, HY, HB⟩
      · have he1 := i_ne hip
        have he2 := i_ned hip
        have HNP : Aside0 (¬ (i = p ∧ 1 < q - p)) := ⟨fun h => hip h.1⟩
        clear hip
        by_cases ho : o.toList = []
        · have ho1 : (o.toList == ([] : List UInt8)) = true := beq_iff_eq.mpr ho
          have ho2 : (o.toList != ([] : List UInt8)) = false := bne_eq_false_iff_eq.mpr ho
          have HN := Aside0.mk (HT.out.hexA HE.out HI.out HNP.out (fun h => h.1 ho))
          clear ho
          go_wp2_with fail
          refine (strconv_FormatUint.calls _ _ _ _ (hex_u HV.out) (HW.out.below HB.out)).mono ?_
          rintro e w4 ⟨rfl, hb⟩
          replace HY := Aside0.mk (blk_below HY.out hb)
          replace HB := Aside0.mk (below_step HB.out hb)
          clear hb
          generalize (⟨(hexL 4 x.toNat).toArray⟩ : ByteArray) = hx at HN ⊢
          have hs4 := sz_h HN.out
          try rw [ByteArray.size_append, show (⟨#[58]⟩ : ByteArray).size = 1 from rfl] at hs4
          go_wp2_with fail
          go_roundg m
          case measure => exact Nat.lt_succ_self m
          case rel => exact ⟨i + 1, _, rfl, by rw [HS.out], HN, HY, HB⟩
        · have ho1 : (o.toList == ([] : List UInt8)) = false := beq_eq_false_iff_ne.mpr ho
          have ho2 : (o.toList != ([] : List UInt8)) = true := bne_iff_ne.mpr ho
          have HO := Aside0.mk ho
          clear ho
          go_wp2_with fail
          refine (strings_HasSuffix.calls _ _ _ _ (suf_u (Nat.le_trans (Nat.le_add_right _ _) HT.out.sz))).mono ?_
          rintro e w3 ⟨rfl, hb⟩
          replace HY := Aside0.mk (blk_below HY.out hb)
          replace HB := Aside0.mk (below_step HB.out hb)
          clear hb hc
          have hc : w3.cell? ⟨ga, i, none⟩ = some (.int .u64 x) := (blk_cell HY.out i).trans ((HC.out i HI.out).trans (by rw [HE.out]))
          cases hs : Lib.hasSuffix o.data.toList [58] with
          | true =>
            have HN := Aside0.mk (HT.out.hexA HE.out HI.out HNP.out (fun h => Bool.noConfusion (hs.symm.trans h.2)))
            clear hs
            go_wp2_with fail
            refine (strconv_FormatUint.calls _ _ _ _ (hex_u HV.out) (HW.out.below HB.out)).mono ?_
            rintro e w4 ⟨rfl, hb⟩
            replace HY := Aside0.mk (blk_below HY.out hb)
            replace HB := Aside0.mk (below_step HB.out hb)
            clear hb
            generalize (⟨(hexL 4 x.toNat).toArray⟩ : ByteArray) = hx at HN ⊢
            have hs4 := sz_h HN.out
            try rw [ByteArray.size_append, show (⟨#[58]⟩ : ByteArray).size = 1 from rfl] at hs4
            go_wp2_with fail
            go_roundg m
            case measure => exact Nat.lt_succ_self m
            case rel => exact ⟨i + 1, _, rfl, by rw [HS.out], HN, HY, HB⟩
          | false =>
            have HN := Aside0.mk (HT.out.hexB HE.out HI.out HNP.out ⟨HO.out, hs⟩)
            have hs1 := sz_1 HT.out
            clear hs
            go_wp2_with fail
            refine (strconv_FormatUint.calls _ _ _ _ (hex_u HV.out) (HW.out.below HB.out)).mono ?_
            rintro e w4 ⟨rfl, hb⟩
            replace HY := Aside0.mk (blk_below HY.out hb)
            replace HB := Aside0.mk (below_step HB.out hb)
            clear hb
            generalize (⟨(hexL 4 x.toNat).toArray⟩ : ByteArray) = hx at HN ⊢
            have hs4 := sz_h HN.out
            try rw [ByteArray.size_append, show (⟨#[58]⟩ : ByteArray).size = 1 from rfl] at hs4
            go_wp2_with fail
            go_roundg m
            case measure => exact Nat.lt_succ_self m
            case rel => exact ⟨i + 1, _, rfl, by rw [HS.out], HN, HY, HB⟩
    · have hlt := r_ge hi8
      have hlt2 := r_ged hi8
      have e := HT.out.fin hi8
      subst e
      clear hi8
      go_wp2_with fail
      exact bodyPost_ret (v := .string o) (by simp [results, Tryz.results62, go_sem]) rfl ⟨rfl, HB.out⟩
def address_Format.f (a0 : Bool) (a1 a2 : Int) : Option ByteArray := if a0 = true then some (fmt6 a1 a2) else strings_Join.f [decB (Go.bits .and .u64 (a2 / 16777216) 255), decB (Go.bits .and .u64 (a2 / 65536) 255), decB (Go.bits .and .u64 (a2 / 256) 255), decB (Go.bits .and .u64 (a2) 255)] (⟨#[46]⟩ : ByteArray)
theorem address_Format.calls (a0 : Bool) (a1 a2 : Int) (r : ByteArray) (w : World) (h : address_Format.f a0 a1 a2 = some r) (hW : WOK w) :
    Calls Tryz.prog 62 #[.agg #[.bool a0, .int .u64 a1, .int .u64 a2]] w fun e w' => e = .returned (.string r) ∧ Below w.heap.size w w' := by
  unfold address_Format.f at h
  cases a0 with
  | true =>
    rw [if_pos rfl] at h
    injection h with h
    subst h
    exact format6 a1 a2 w hW
  | false =>
    rw [if_neg (by decide)] at h
    exact format4 a1 a2 r w h hW
end Go.Proofs.YtnphnhkinjppjaaGreatDoor.Q
end

section
namespace Go.Proofs.YtnphnhkinjppjaaGreatDoor.Q
open Go.RowKit Go.Proofs.YtnphnhkinjppjaaGreatDoorW.PrintWords Go.Proofs.YtnphnhkinjppjaaGreatDoorW.PrintLast Go.Proofs.YtnphnhkinjppjaaGreatDoorW.PrintMore
attribute [local go_sem] max2_int min2_int max_two min_two max_three min_three max_four min_four
set_option linter.unusedVariables false
set_option linter.unusedSimpArgs false
def address_FormatPrefix.f (a0_0 : Bool) (a0_1 : Int) (a0_2 : Int) (a0_3 : Int) : Option (ByteArray) := (address_Format.f a0_0 a0_1 a0_2).bind fun t134 => (if t134.size + 1 ≤ 9223372036854775807 then ((strconv_Itoa.f a0_3).bind fun t135 => (if (t134 ++ (⟨#[47]⟩ : ByteArray)).size + t135.size ≤ 9223372036854775807 then (some ((t134 ++ (⟨#[47]⟩ : ByteArray)) ++ t135)) else (none))) else (none))
def address_FormatPrefix.T1 : Bool × List (List Nat × List Nat) := (true, [([], []), ([0], [0]), ([1], [1]), ([2], [2]), ([], []), ([4], [4]), ([5, 2], [5]), ([3, 6], [3, 6]), ([7, 6, 0, 1, 2, 3, 4, 5, 6, 7], [7])])
def address_FormatPrefix.B1 : List Nat := [0, 1, 3, 7, 0, 16, 55, 127, 255]
theorem address_FormatPrefix.tab1 : rtab .any (opsOf Tryz.f39 1) = address_FormatPrefix.T1 := by kernel_rfl
theorem address_FormatPrefix.bits1 : waitsOk address_FormatPrefix.T1.2 address_FormatPrefix.B1 = true := by kernel_rfl
set_option maxHeartbeats 8000000 in
set_option maxRecDepth 100000 in
theorem address_FormatPrefix.calls (a0_0 : Bool) (a0_1 : Int) (a0_2 : Int) (a0_3 : Int) (r : ByteArray) (w : World) (h : address_FormatPrefix.f a0_0 a0_1 a0_2 a0_3 = some r) (hW_ : WOK w) :
 Calls Tryz.prog 39 #[.agg #[.bool a0_0, .int .u64 a0_1, .int .u64 a0_2, .int .i64 a0_3]] w fun e w' => e = .returned (.string r) ∧ Below w.heap.size w w' := by
 have hu33 := Tryz.underlying33
 have hu31 := Tryz.underlying31
 have HB := Aside0.mk (Below.refl w.heap.size w)
 unfold address_FormatPrefix.f at h; have H := h
 clear h
 replace H := Option.bind_eq_some_iff.mp H
 obtain ⟨t134, A20, H⟩ := H
 try dsimp only at H
 have A2 := Aside0.mk A20
 clear A20
 by_cases c3 : t134.size + 1 ≤ 9223372036854775807
 · rw [if_pos c3] at H
   have c3b0 := eq_true c3
   have c3b1 : decide (t134.size + 1 ≤ 9223372036854775807) = true := decide_eq_true c3
   try have c3b2 : (9223372036854775807 < t134.size + 1) = False := eq_false (Nat.not_lt.2 c3)
   replace H := Option.bind_eq_some_iff.mp H
   obtain ⟨t135, A40, H⟩ := H
   try dsimp only at H
   have A4 := Aside0.mk A40
   clear A40
   by_cases c5 : (t134 ++ (⟨#[47]⟩ : ByteArray)).size + t135.size ≤ 9223372036854775807
   · rw [if_pos c5] at H
     have c5b0 := eq_true c5
     have c5b8 : t134.size + 1 + t135.size ≤ 9223372036854775807 := by have q_ := c5; simp only [ByteArray.size_append] at q_; first | exact q_ | (rw [Nat.add_assoc]; exact q_) | (simp only [Nat.add_assoc] at q_ ⊢; exact q_)
     have c5b7 : (9223372036854775807 < t134.size + 1 + t135.size) = False := eq_false (Nat.not_lt.2 c5b8)
     replace c5b8 := eq_true c5b8
     have c5b1 : decide ((t134 ++ (⟨#[47]⟩ : ByteArray)).size + t135.size ≤ 9223372036854775807) = true := decide_eq_true c5
     try have c5b2 : (9223372036854775807 < (t134 ++ (⟨#[47]⟩ : ByteArray)).size + t135.size) = False := eq_false (Nat.not_lt.2 c5)
     obtain rfl := Option.some.inj H
     go_enter Tryz.func39, Tryz.ntmps39
     try go_wp2_with (first | ((with_reducible refine gate_dst (N := 1) rfl ?_); refine zx 1 #[.bool a0_0, .int .u64 a0_1, .int .u64 a0_2, .int .i64 a0_3] 33 ?_; intro gb133 hg w6 hbox hb; have BK133 := Aside0.mk (hbox); have GW133 := Aside0.mk ((by rw [hg]; exact (below_size (zB HB)) : w.heap.size ≤ gb133)); have GE133 := Aside0.mk ((by rw [hg]; exact (below_size (zB HB)) : w.heap.size ≤ gb133)); replace HB := Aside0.mk (below_step (zB HB) hb); clear hb hbox hg))
     replace BK133 := Aside0.mk (blk_drew BK133.out)
     replace HB := Aside0.mk (below_drew1 HB.out)
     refine start_ (n := 9) (S := fun w' => w'.cell? ⟨gb133, 0, none⟩ = some (.bool a0_0) ∧ w'.cell? ⟨gb133, 1, none⟩ = some (.int .u64 a0_1) ∧ w'.cell? ⟨gb133, 2, none⟩ = some (.int .u64 a0_2) ∧ w'.cell? ⟨gb133, 3, none⟩ = some (.int .i64 a0_3)) (ds := []) #[false, false, false, false, false, false, false, false, false] (by kernel_rfl) rfl rfl ⟨zc BK133 0, zc BK133 1, zc BK133 2, zc BK133 3⟩ (fun hHeld => ?_); refine with_tabW address_FormatPrefix.tab1 address_FormatPrefix.bits1 (fun HT_ HW_ => ?_)
     generalize w6.drew = w7 at BK133 HB hHeld ⊢
     refine zp 0 3 HT_ ?_; refine zp 4 7 HT_ ?_; refine zt 1 4 HT_ HW_ hHeld ?_; refine zt 5 8 HT_ HW_ hHeld ?_; refine zo 2 5 HT_ (fun K hK => ?_)
     refine zg Tryz.func62 #[.agg #[.bool a0_0, .int .u64 a0_1, .int .u64 a0_2]] ?_
     with_reducible refine (address_Format.calls a0_0 a0_1 a0_2 t134 _ A2.out (WOK.below hW_ (zB HB))).mono ?_
     rintro e w8 ⟨rfl, hb⟩
     refine ⟨_, rfl, ?_⟩
     replace BK133 := Aside0.mk (blk_below (g := gb133) (o := .cells #[.bool a0_0, .int .u64 a0_1, .int .u64 a0_2, .int .i64 a0_3] 33 (0, 0)) (zK BK133) hb)
     replace HB := Aside0.mk (below_step (zB HB) hb)
     (try clear hb)
     refine hK.out _ _ ⟨zc BK133 0, zc BK133 1, zc BK133 2, zc BK133 3⟩ (fun hHeld => ?_)
     clear hK K
     refine zn 5 ?_; refine zp 3 6 HT_ ?_; refine zo 6 9 HT_ (fun K hK => ?_)
     refine zg Tryz.func41 #[.int .i64 a0_3] ?_
     with_reducible refine (strconv_Itoa.calls a0_3 t135 _ A4.out (WOK.below hW_ (zB HB))).mono ?_
     rintro e w9 ⟨rfl, hb⟩
     refine ⟨_, rfl, ?_⟩
     replace BK133 := Aside0.mk (blk_below (g := gb133) (o := .cells #[.bool a0_0, .int .u64 a0_1, .int .u64 a0_2, .int .i64 a0_3] 33 (0, 0)) (zK BK133) hb)
     replace HB := Aside0.mk (below_step (zB HB) hb)
     (try clear hb)
     refine hK.out _ _ ⟨zc BK133 0, zc BK133 1, zc BK133 2, zc BK133 3⟩ (fun hHeld => ?_)
     clear hK K
     refine zn 9 ?_; refine zp 7 10 HT_ ?_; refine zp 8 2 HT_ ?_; refine zd HT_ ?_
     try go_wp2
     go_ret
     exact ⟨by first | rfl | (simp [errW_none, errW_some] <;> rfl) | (simp [*, errW_none, errW_some] <;> rfl), by repeat (first | (with_reducible first | exact HB.out | apply below_alloc | apply pw_below_drewN | apply below_drew1 | refine below_set ?_ GE133.out) | exact HB.out)⟩
   · rw [if_neg c5] at H
     exact absurd H (by simp)
 · rw [if_neg c3] at H
   exact absurd H (by simp)
end Go.Proofs.YtnphnhkinjppjaaGreatDoor.Q
end

section
set_option linter.unusedVariables false
set_option linter.unusedSimpArgs false
namespace Go.Proofs.YtnphnhkinjppjaaGreatDoor.Q
open Go.RowKit Go.Proofs.YtnphnhkinjppjaaGreatDoorW.PrintWords Go.Proofs.YtnphnhkinjppjaaGreatDoorW.PrintLast Go.Proofs.YtnphnhkinjppjaaGreatDoorW.PrintMore
structure FmtI (w W : World) (b : Nat) (out : List UInt8) : Prop where
  bld : IsBld w.heap.size b out W
  bel : Below w.heap.size w W
  lt : b < W.heap.size
theorem FmtI.below {w W W1 : World} {b : Nat} {out : List UInt8} (h : FmtI w W b out) (hb : Below W.heap.size W W1) : FmtI w W1 b out := ⟨bld_below h.bld hb, below_then h.bel h.bel.size hb, Nat.lt_of_lt_of_le h.lt hb.size⟩
theorem others_below {e : TypeId} {b : Option Nat} {W W1 : World} (hb : Below W.heap.size W W1) : Lib.OthersKept e b W W1 := fun k o hk _ _ => blk_below hk hb
theorem FmtI.write {w W W1 : World} {b : Nat} {out : List UInt8} {s : ByteArray} (h : FmtI w W b out) (h1 : IsBld w.heap.size b (out ++ s.data.toList) W1) (h2 : Below w.heap.size W W1) : FmtI w W1 b (out ++ s.data.toList) := ⟨h1, h.bel.trans h2, Nat.lt_of_lt_of_le h.lt h2.size⟩
def polList : List ByteArray := [⟨#[102, 105, 114, 115, 116]⟩, ⟨#[108, 97, 115, 116]⟩, ⟨#[98, 115, 100]⟩, ⟨#[108, 105, 110, 117, 120]⟩, ⟨#[100, 114, 111, 112]⟩]
def sp : ByteArray := ⟨#[32]⟩
def namePart (word : ByteArray) (n : Int) : List UInt8 := if n = 1 then [] else (sp ++ word ++ sp ++ rdOf ByteArray.empty polList (n - 1)).data.toList
set_option maxHeartbeats 4000000 in
set_option maxRecDepth 100000 in
theorem name_walk (w W : World) (b : Nat) (out : List UInt8) (word : ByteArray) (n : Int) (h : FmtI w W b out) (hw : word.size ≤ 100) (hl : out.length ≤ 10000000) (h1 : 1 ≤ n) (h5 : n ≤ 5) :
    Calls Tryz.prog 42 #[.string word, .int .i64 n, .pointer (some ⟨b, 0, none⟩)] W fun e w' => e = .returned (.tuple #[]) ∧ FmtI w w' b (out ++ namePart word n) ∧ Lib.OthersKept 5 (some b) W w' := by
  have H := Aside0.mk h
  have HL := Aside0.mk hl
  clear h hl
  by_cases hn : n = 1
  · have HE : Aside0 (namePart word n = []) := ⟨if_pos hn⟩
    have b1 : (n != 1) = false := by rw [hn]; rfl
    clear hn
    go_enter Tryz.func42, Tryz.ntmps42
    go_wp2
    go_end0
    exact ⟨rfl, by rw [HE.out, List.append_nil]; exact H.out, Lib.OthersKept.refl _ _ _⟩
  · have HE : Aside0 (namePart word n = (sp ++ word ++ sp ++ rdOf ByteArray.empty polList (n - 1)).data.toList) := ⟨if_neg hn⟩
    have b1 : (n != 1) = true := bne_iff_ne.mpr hn
    clear hn
    go_enter Tryz.func42, Tryz.ntmps42
    go_wp2_with fail
    refine (asset_policies.calls polList W rfl).mono ?_
    rintro e w2 ⟨v, rfl, ho, hb⟩
    obtain ⟨A1, c1, hv⟩ := Kd.R_slice ho
    subst hv
    obtain ⟨ad, ha, hx⟩ := Kd.at_string (Kd.R_reads' ho).2.2 (n - 1) (by omega) (by show n - 1 < (5 : Nat); omega)
    subst ha
    have HO := Aside0.mk (others_below (e := 5) (b := some b) hb)
    have H2 := Aside0.mk (H.out.below hb)
    clear ho hb
    have hps : (rdOf ByteArray.empty polList (n - 1)).size ≤ 10 := by
      have hns : n = 1 ∨ n = 2 ∨ n = 3 ∨ n = 4 ∨ n = 5 := by omega
      rcases hns with rfl | rfl | rfl | rfl | rfl <;> decide
    obtain ⟨nm, hnm⟩ : ∃ x, rdOf ByteArray.empty polList (n - 1) = x := ⟨_, rfl⟩
    rw [hnm] at hx hps
    have HNM := Aside0.mk hnm
    clear hnm
    rw [show (n - 1).toNat = n.toNat - 1 from by omega] at hx
    have h5l : polList.length = 5 := rfl
    rw [h5l]
    have p1 : 0 ≤ n - 1 := by omega
    have p2 : n - 1 < 5 := by omega
    go_wp2_with fail
    refine (bld_str w.heap.size b out (sp ++ word ++ sp ++ nm) w2 H2.out.bld (by rw [ByteArray.size_append, ByteArray.size_append, ByteArray.size_append]; have := HL.out; have : sp.size = 1 := rfl; omega) H2.out.bel.size).mono ?_
    rintro e w3 ⟨rfl, hb1, hb2, hb3⟩
    have H3 := Aside0.mk (H2.out.write hb1 hb2)
    have HO3 := Aside0.mk (HO.out.trans hb3)
    clear hb1 hb2 hb3 hx p1 p2 hps h5l
    go_wp2
    go_end0
    exact ⟨rfl, by rw [HE.out, HNM.out]; exact H3.out, HO3.out⟩
theorem itoa_size {n : Int} (h : 0 ≤ n) (h2 : n ≤ 100000) : (⟨(Lib.itoa n).toArray⟩ : ByteArray).size ≤ 30 := by
  show (Lib.itoa n).toArray.size ≤ 30
  simp only [List.size_toArray]
  exact Nat.le_trans (Lib.itoa_length_le n (by omega) (by omega)) (by decide)
def numPart (word : ByteArray) (n usual : Int) : List UInt8 := if n = usual then [] else (sp ++ word ++ sp ++ ⟨(Lib.itoa n).toArray⟩).data.toList
set_option maxHeartbeats 4000000 in
set_option maxRecDepth 100000 in
theorem number_walk (w W : World) (b : Nat) (out : List UInt8) (word : ByteArray) (n usual : Int) (h : FmtI w W b out) (hW : WOK w) (hw : word.size ≤ 100) (hl : out.length ≤ 10000000) (h1 : 0 ≤ n) (h5 : n ≤ 100000) :
    Calls Tryz.prog 40 #[.string word, .int .i64 n, .int .i64 usual, .pointer (some ⟨b, 0, none⟩)] W fun e w' => e = .returned (.tuple #[]) ∧ FmtI w w' b (out ++ numPart word n usual) ∧ Lib.OthersKept 5 (some b) W w' := by
  have H := Aside0.mk h
  have HL := Aside0.mk hl
  have HW := Aside0.mk (hW.below h.bel)
  clear h hl
  by_cases hn : n = usual
  · have HE : Aside0 (numPart word n usual = []) := ⟨if_pos hn⟩
    have b1 : (n != usual) = false := by rw [hn]; simp
    clear hn
    go_enter Tryz.func40, Tryz.ntmps40
    go_wp2
    go_end0
    exact ⟨rfl, by rw [HE.out, List.append_nil]; exact H.out, Lib.OthersKept.refl _ _ _⟩
  · have HE : Aside0 (numPart word n usual = (sp ++ word ++ sp ++ ⟨(Lib.itoa n).toArray⟩).data.toList) := ⟨if_neg hn⟩
    have b1 : (n != usual) = true := bne_iff_ne.mpr hn
    have hps := itoa_size (n := n) (by omega) (by omega)
    have hit : strconv_Itoa.f n = some ⟨(Lib.itoa n).toArray⟩ := if_pos ⟨by omega, by omega⟩
    have HIT := Aside0.mk hit
    obtain ⟨nm, hnm⟩ : ∃ x, (⟨(Lib.itoa n).toArray⟩ : ByteArray) = x := ⟨_, rfl⟩
    rw [hnm] at hps HIT HE
    clear hn hit hnm
    go_enter Tryz.func40, Tryz.ntmps40
    go_wp2_with fail
    refine (strconv_Itoa.calls n nm W HIT.out HW.out).mono ?_
    rintro e w2 ⟨rfl, hb⟩
    have HO := Aside0.mk (others_below (e := 5) (b := some b) hb)
    have H2 := Aside0.mk (H.out.below hb)
    clear hb
    go_wp2_with fail
    refine (bld_str w.heap.size b out (sp ++ word ++ sp ++ nm) w2 H2.out.bld (by rw [ByteArray.size_append, ByteArray.size_append, ByteArray.size_append]; have := HL.out; have : sp.size = 1 := rfl; omega) H2.out.bel.size).mono ?_
    rintro e w3 ⟨rfl, hb1, hb2, hb3⟩
    have H3 := Aside0.mk (H2.out.write hb1 hb2)
    have HO3 := Aside0.mk (HO.out.trans hb3)
    clear hb1 hb2 hb3 hps
    go_wp2
    go_end0
    exact ⟨rfl, by rw [HE.out]; exact H3.out, HO3.out⟩
def appList : List ByteArray := [⟨#[114, 97, 119]⟩, ⟨#[104, 116, 116, 112]⟩, ⟨#[115, 109, 116, 112]⟩, ⟨#[116, 108, 115]⟩, ⟨#[100, 110, 115]⟩]
def bHost5 : ByteArray := ⟨#[104, 111, 115, 116, 32]⟩
def bSvc9 : ByteArray := ⟨#[32, 115, 101, 114, 118, 105, 99, 101, 32]⟩
def svcPart (s : S74) : List UInt8 := (bSvc9 ++ (if s.f0 = 17 then ⟨#[117, 100, 112]⟩ else ⟨#[116, 99, 112]⟩) ++ sp ++ ⟨(Lib.itoa s.f1).toArray⟩ ++ sp ++ rdOf ByteArray.empty appList s.f2).data.toList
def headPart (A : S36) (fp : ByteArray) : List UInt8 := (bHost5 ++ A.f0 ++ sp ++ fp).data.toList
def linePart (A : S36) (fp : ByteArray) : List UInt8 :=
  headPart A fp ++ namePart ⟨#[112, 111, 108, 105, 99, 121]⟩ A.f2 ++ namePart ⟨#[102, 114, 97, 103]⟩ A.f3 ++ numPart ⟨#[104, 111, 112, 115]⟩ A.f4 0 ++ numPart ⟨#[119, 105, 110, 100, 111, 119]⟩ A.f5 8192 ++ (if A.f6 = true then [32, 115, 116, 97, 109, 112, 115] else []) ++ numPart ⟨#[118, 97, 108, 117, 101]⟩ A.f7 1 ++ (A.f8.map svcPart).flatten ++ [59, 10]
def fineB (A : S36) : Bool := decide (A.f0.size ≤ 100) && decide (1 ≤ A.f2) && decide (A.f2 ≤ 5) && decide (1 ≤ A.f3) && decide (A.f3 ≤ 5) && decide (0 ≤ A.f4) && decide (A.f4 ≤ 100000) && decide (0 ≤ A.f5) && decide (A.f5 ≤ 100000) && decide (0 ≤ A.f7) && decide (A.f7 ≤ 100000) && decide (A.f8.length ≤ 100) && A.f8.all fun s => decide (0 ≤ s.f1) && decide (s.f1 ≤ 100000) && decide (0 ≤ s.f2) && decide (s.f2 ≤ 4)
structure FineA (A : S36) : Prop where
  f0 : A.f0.size ≤ 100
  f2 : 1 ≤ A.f2 ∧ A.f2 ≤ 5
  f3 : 1 ≤ A.f3 ∧ A.f3 ≤ 5
  f4 : 0 ≤ A.f4 ∧ A.f4 ≤ 100000
  f5 : 0 ≤ A.f5 ∧ A.f5 ≤ 100000
  f7 : 0 ≤ A.f7 ∧ A.f7 ≤ 100000
  f8 : A.f8.length ≤ 100
  sv : ∀ s ∈ A.f8, 0 ≤ s.f1 ∧ s.f1 ≤ 100000 ∧ 0 ≤ s.f2 ∧ s.f2 ≤ 4
theorem fine_of {A : S36} (h : fineB A = true) : FineA A := by
  unfold fineB at h
  simp only [Bool.and_eq_true, decide_eq_true_eq, List.all_eq_true] at h
  obtain ⟨⟨⟨⟨⟨⟨⟨⟨⟨⟨⟨⟨h0, h1⟩, h2⟩, h3⟩, h4⟩, h5⟩, h6⟩, h7⟩, h8⟩, h9⟩, h10⟩, h11⟩, h12⟩ := h
  exact ⟨h0, ⟨h1, h2⟩, ⟨h3, h4⟩, ⟨h5, h6⟩, ⟨h7, h8⟩, ⟨h9, h10⟩, h11, fun s hs => by obtain ⟨⟨⟨a, b⟩, c⟩, d⟩ := h12 s hs; exact ⟨a, b, c, d⟩⟩
def asset_Format.l0 : Nat → List S36 → Nat → List UInt8 → Option (List UInt8)
  | 0, _, _, _ => none
  | k + 1, l, i, out =>
    if i < l.length then
      if fineB (rd_T36 l (i : Int)) = true then
        (address_FormatPrefix.f (rd_T36 l (i : Int)).f1.f0.f0 (rd_T36 l (i : Int)).f1.f0.f1 (rd_T36 l (i : Int)).f1.f0.f2 (rd_T36 l (i : Int)).f1.f1).bind fun fp =>
          if fp.size ≤ 1000 then asset_Format.l0 k l (i + 1) (out ++ linePart (rd_T36 l (i : Int)) fp) else none
      else none
    else some out
def asset_Format.f (k : Nat) (l : List S36) : Option ByteArray := (asset_Check.f k l).bind fun c => if c = 0 then (if l.length ≤ 100 then (asset_Format.l0 k l 0 []).bind fun out => some ⟨out.toArray⟩ else none) else some ⟨#[]⟩
theorem asset_Format.mono_l : ∀ (k : Nat) (l : List S36) (i : Nat) (out : List UInt8), LeO (asset_Format.l0 k l i out) (asset_Format.l0 (k + 1) l i out) := by
  intro k
  induction k with
  | zero => intro l i out; exact LeO.none _
  | succ k ih =>
    intro l i out
    rw [asset_Format.l0, asset_Format.l0]
    exact LeO.ite (LeO.ite (LeO.bind (LeO.refl _) fun fp => LeO.ite (ih _ _ _) (LeO.refl _)) (LeO.refl _)) (LeO.refl _)
theorem asset_Format.mono : ∀ l k, LeO (asset_Format.f k l) (asset_Format.f (k + 1) l) := fun l k => LeO.bind (asset_Check.mono _ _) fun c => LeO.ite (LeO.ite (LeO.bind (asset_Format.mono_l _ _ _ _) fun out => LeO.refl _) (LeO.refl _)) (LeO.refl _)
theorem name_size (w : ByteArray) (n : Int) (hw : w.size ≤ 100) (h1 : 1 ≤ n) (h5 : n ≤ 5) : (namePart w n).length ≤ 200 := by
  have hps : (rdOf ByteArray.empty polList (n - 1)).size ≤ 10 := by
    have hns : n = 1 ∨ n = 2 ∨ n = 3 ∨ n = 4 ∨ n = 5 := by omega
    rcases hns with rfl | rfl | rfl | rfl | rfl <;> decide
  unfold namePart
  split
  · simp
  · rw [data_length, ByteArray.size_append, ByteArray.size_append, ByteArray.size_append]
    have : sp.size = 1 := rfl
    omega
theorem num_size (w : ByteArray) (n u : Int) (hw : w.size ≤ 100) (h1 : 0 ≤ n) (h5 : n ≤ 100000) : (numPart w n u).length ≤ 200 := by
  have hps := itoa_size h1 h5
  unfold numPart
  split
  · simp
  · rw [data_length, ByteArray.size_append, ByteArray.size_append, ByteArray.size_append]
    have : sp.size = 1 := rfl
    omega
theorem format_on {k : Nat} {l : List S36} {i : Nat} {out o : List UInt8} (h : asset_Format.l0 k l i out = some o) (hi : i < l.length) {A : S36} (hA : rd_T36 l (i : Int) = A) :
    ∃ k' fp, k = k' + 1 ∧ FineA A ∧ address_FormatPrefix.f A.f1.f0.f0 A.f1.f0.f1 A.f1.f0.f2 A.f1.f1 = some fp ∧ fp.size ≤ 1000 ∧ asset_Format.l0 k' l (i + 1) (out ++ linePart A fp) = some o := by
  subst hA
  cases k with
  | zero => cases h
  | succ k =>
    rw [asset_Format.l0, if_pos hi] at h
    split at h
    · rename_i hf
      obtain ⟨fp, h1, h2⟩ := Option.bind_eq_some_iff.mp h
      split at h2
      · rename_i hs
        exact ⟨k, fp, rfl, fine_of hf, h1, hs, h2⟩
      · cases h2
    · cases h
theorem format_fin {k : Nat} {l : List S36} {i : Nat} {out o : List UInt8} (h : asset_Format.l0 k l i out = some o) (hi : ¬ i < l.length) : out = o := by
  cases k with
  | zero => cases h
  | succ k => rw [asset_Format.l0, if_neg hi] at h; exact Option.some.inj h
theorem app_size {n : Int} (h0 : 0 ≤ n) (h4 : n ≤ 4) : (rdOf ByteArray.empty appList n).size ≤ 10 := by
  have hns : n = 0 ∨ n = 1 ∨ n = 2 ∨ n = 3 ∨ n = 4 := by omega
  rcases hns with rfl | rfl | rfl | rfl | rfl <;> decide
theorem pro_size (n : Int) : ((if n = 17 then ⟨#[117, 100, 112]⟩ else ⟨#[116, 99, 112]⟩ : ByteArray)).size = 3 := by split <;> rfl
theorem svc_size {s : S74} (h : 0 ≤ s.f1 ∧ s.f1 ≤ 100000 ∧ 0 ≤ s.f2 ∧ s.f2 ≤ 4) : (svcPart s).length ≤ 100 := by
  have h1 := itoa_size h.1 h.2.1
  have h2 := app_size h.2.2.1 h.2.2.2
  have h3 := pro_size s.f0
  have h4 : bSvc9.size = 9 := rfl
  have h5 : sp.size = 1 := rfl
  rw [svcPart, data_length, ByteArray.size_append, ByteArray.size_append, ByteArray.size_append, ByteArray.size_append, ByteArray.size_append]
  omega
theorem svcs_size : ∀ (l : List S74), (∀ s ∈ l, 0 ≤ s.f1 ∧ s.f1 ≤ 100000 ∧ 0 ≤ s.f2 ∧ s.f2 ≤ 4) → ((l.map svcPart).flatten).length ≤ 100 * l.length
  | [], _ => by simp
  | s :: l, h => by
    have h1 := svc_size (h s (List.mem_cons_self ..))
    have h2 := svcs_size l (fun x hx => h x (List.mem_cons_of_mem _ hx))
    rw [List.map_cons, List.flatten_cons, List.length_append, List.length_cons]
    omega
theorem line_size {A : S36} {fp : ByteArray} (h : FineA A) (hf : fp.size ≤ 1000) : (linePart A fp).length ≤ 30000 := by
  have h1 := name_size ⟨#[112, 111, 108, 105, 99, 121]⟩ A.f2 (by decide) h.f2.1 h.f2.2
  have h2 := name_size ⟨#[102, 114, 97, 103]⟩ A.f3 (by decide) h.f3.1 h.f3.2
  have h3 := num_size ⟨#[104, 111, 112, 115]⟩ A.f4 0 (by decide) h.f4.1 h.f4.2
  have h4 := num_size ⟨#[119, 105, 110, 100, 111, 119]⟩ A.f5 8192 (by decide) h.f5.1 h.f5.2
  have h5 := num_size ⟨#[118, 97, 108, 117, 101]⟩ A.f7 1 (by decide) h.f7.1 h.f7.2
  have h6 := svcs_size A.f8 h.sv
  have h7 : (if A.f6 = true then [32, 115, 116, 97, 109, 112, 115] else [] : List UInt8).length ≤ 7 := by split <;> decide
  have h8 : (headPart A fp).length ≤ 1200 := by
    rw [headPart, data_length, ByteArray.size_append, ByteArray.size_append, ByteArray.size_append]
    have := h.f0; have : sp.size = 1 := rfl; have : bHost5.size = 5 := rfl; omega
  have h9 := h.f8
  have h10 : ([59, 10] : List UInt8).length = 2 := rfl
  unfold linePart
  simp only [List.length_append] at *
  omega
theorem st_size (b : Bool) : (if b = true then [32, 115, 116, 97, 109, 112, 115] else [] : List UInt8).length ≤ 7 := by split <;> decide
theorem svc_len {pr nm ap : ByteArray} {x : Nat} (h : pr.size = 3 ∧ nm.size ≤ 30 ∧ ap.size ≤ 10) (hl : x ≤ 3013100) : x + (bSvc9 ++ pr ++ sp ++ nm ++ sp ++ ap).size ≤ 100000000 := by
  rw [ByteArray.size_append, ByteArray.size_append, ByteArray.size_append, ByteArray.size_append, ByteArray.size_append]
  have h4 : bSvc9.size = 9 := rfl
  have h5 : sp.size = 1 := rfl
  omega
theorem svc_mem {l : List S74} {j : Nat} (h : j < l.length) : rd_T74 l (j : Int) ∈ l := by
  have : rd_T74 l (j : Int) = l[j] := by unfold rd_T74; rw [Int.toNat_natCast, List.getD_eq_getElem?_getD, List.getElem?_eq_getElem h]; rfl
  rw [this]; exact List.getElem_mem h
theorem svc_take {l : List S74} {j : Nat} (h : j < l.length) : ((l.take (j + 1)).map svcPart).flatten = ((l.take j).map svcPart).flatten ++ svcPart (rd_T74 l (j : Int)) := by
  have : rd_T74 l (j : Int) = l[j] := by unfold rd_T74; rw [Int.toNat_natCast, List.getD_eq_getElem?_getD, List.getElem?_eq_getElem h]; rfl
  rw [this, ← List.take_append_getElem h, List.map_append, List.flatten_append]
  simp
theorem keepS {b ga : Nat} {v : Array Value} {w w' : World} (h : w.heap[ga]? = some (.cells v 74 (0, 0))) (hb : ga ≠ b) (ho : Lib.OthersKept 5 (some b) w w') : w'.heap[ga]? = some (.cells v 74 (0, 0)) :=
  ho ga _ h (fun e => hb (Option.some.inj e)) (fun c fz e => by injection e with e1 e2 e3; exact absurd e2 (by decide))
theorem keepA {b ga : Nat} {v : Array Value} {w w' : World} (h : w.heap[ga]? = some (.cells v 36 (0, 0))) (hb : ga ≠ b) (ho : Lib.OthersKept 5 (some b) w w') : w'.heap[ga]? = some (.cells v 36 (0, 0)) :=
  ho ga _ h (fun e => hb (Option.some.inj e)) (fun c fz e => by injection e with e1 e2 e3; exact absurd e2 (by decide))
set_option maxHeartbeats 8000000 in
set_option maxRecDepth 100000 in
theorem asset_Format.calls (k : Nat) (A : Option Addr) (c : Nat) (l : List S36) (r : ByteArray) (w : World) (hC : Kd.C k36 w A l.length l) (hc : l.length ≤ c) (h : asset_Format.f k l = some r) (hW_ : WOK w) :
    Calls Tryz.prog 14 #[.slice A l.length c] w fun e w' => e = .returned (.string r) ∧ Below w.heap.size w w' := by
  have hu := Tryz.underlying36
  have hu33 := Tryz.underlying33
  have HC := Aside0.mk hC
  have HCC := Aside0.mk hc
  have HW0 := Aside0.mk hW_
  obtain ⟨n, hn⟩ : ∃ n, l.length = n := ⟨_, rfl⟩
  obtain ⟨cv, hch, hr⟩ := Option.bind_eq_some_iff.mp h
  have HCH := Aside0.mk hch
  have HCK := Aside0.mk (asset_Check.calls k A c l cv w hC hc hch)
  clear h hch hC hc hW_
  rw [hn] at HCK ⊢
  have HN := Aside0.mk hn
  by_cases hz : cv = 0
  · rw [if_pos hz] at hr
    subst hz
    by_cases h100 : l.length ≤ 100
    · rw [if_pos h100] at hr
      obtain ⟨out, ho, hr2⟩ := Option.bind_eq_some_iff.mp hr
      have hr3 := Option.some.inj hr2
      subst hr3
      have HO := Aside0.mk ho
      have H100 : Aside0 (n ≤ 100) := ⟨by omega⟩
      clear hr hr2 ho h100 hn
      go_enter Tryz.func14, Tryz.ntmps14
      go_wp2_with fail
      refine HCK.out.mono ?_
      rintro e w2 ⟨rfl, hb2⟩
      have HB2 := Aside0.mk hb2
      clear hb2
      go_upto_region 4 with (fail)
      have HF : Aside0 (FmtI w2 (w2.alloc (.cells #[.pointer none, .slice none 0 0] 62)) w2.heap.size []) := ⟨bld_new w2, below_alloc (Below.refl _ _) _, by show _ < (w2.heap.push _).size; rw [Array.size_push]; exact Nat.lt_succ_self _⟩
      obtain ⟨b, hb⟩ : ∃ x, w2.heap.size = x := ⟨_, rfl⟩
      simp only [hb] at HF ⊢
      have HBB := Aside0.mk hb
      clear hb
      generalize w2.alloc (.cells #[.pointer none, .slice none 0 0] 62) = W0 at HF ⊢
      go_upto_region 5 with (fail)
      go_loopg [16] k (fun gg v16 wr => ∃ (i : Nat) (o : List UInt8), v16 = .int .i64 (i : Int) ∧ Aside0 (asset_Format.l0 gg l i o = some out ∧ i ≤ n ∧ o.length ≤ 30000 * i) ∧ Aside0 (FmtI w2 wr b o))
      case atStart => exact ⟨0, [], rfl, ⟨HO.out, by omega, by simp⟩, HF⟩
      case round =>
        clear HO HF W0
        obtain ⟨i, o, rfl, HI, HF⟩ := hrel
        have HB := Aside0.mk (below_then HB2.out HB2.out.size HF.out.bel)
        by_cases hi : i < n
        · have b2 : decide ((i : Int) < (n : Int)) = true := decide_eq_true (by omega)
          have b2' : decide (i < n) = true := decide_eq_true hi
          obtain ⟨ad, Ab, cb, rfl, k0, k1, k2, k3, k4, k5, k6, k7, k8, k9, k10, k11, kl, kc⟩ := at_T36 HC.out (i : Int) (by omega) (by rw [HN.out]; omega)
          replace k0 := pw_cell_below HB.out k0
          replace k1 := pw_cell_below HB.out k1
          replace k2 := pw_cell_below HB.out k2
          replace k3 := pw_cell_below HB.out k3
          replace k4 := pw_cell_below HB.out k4
          replace k5 := pw_cell_below HB.out k5
          replace k6 := pw_cell_below HB.out k6
          replace k7 := pw_cell_below HB.out k7
          replace k8 := pw_cell_below HB.out k8
          replace k9 := pw_cell_below HB.out k9
          replace k10 := pw_cell_below HB.out k10
          replace k11 := pw_cell_below HB.out k11
          simp only [Int.toNat_natCast] at k0 k1 k2 k3 k4 k5 k6 k7 k8 k9 k10 k11
          obtain ⟨a, ha⟩ : ∃ a, rd_T36 l (i : Int) = a := ⟨_, rfl⟩
          obtain ⟨k', fp, hk', hfine, hfp, hfs, hnext⟩ := format_on HI.out.1 (by rw [HN.out]; exact hi) ha
          rw [ha] at k0 k1 k2 k3 k4 k5 k6 k7 k8 k9 k10 k11 kl kc
          subst hk'
          have HFN := Aside0.mk hfine
          have HFP := Aside0.mk hfp
          have HFS := Aside0.mk hfs
          have HNX := Aside0.mk hnext
          have HKL := Aside0.mk kl
          have HKC0 := Aside0.mk kc
          have HKC := Aside0.mk (Kd.C_below kc HB.out)
          have HII := Aside0.mk hi
          have HOL : Aside0 (o.length ≤ 3000000) := ⟨by have := HI.out.2.2; have := HI.out.2.1; have := H100.out; omega⟩
          have HIL : Aside0 (o.length ≤ 30000 * i) := ⟨HI.out.2.2⟩
          have b3 : n ≤ 1000000 := by have := H100.out; omega
          clear kl kc hfine hfp hfs hnext ha HI
          go_upto_region 7 with (fail)
          obtain ⟨ga, hga⟩ : ∃ x, wr.heap.size = x := ⟨_, rfl⟩
          have HA : Aside0 ((wr.alloc (.cells (asC a (.slice Ab a.f8.length cb)) 36)).heap[wr.heap.size]? = some (.cells (asC a (.slice Ab a.f8.length cb)) 36 (0, 0))) := ⟨heap_alloc_new _ _⟩
          rw [hga] at HA
          simp only [hga]
          have HGA : Aside0 (ga ≠ b ∧ w2.heap.size ≤ ga) := ⟨by have := HF.out.lt; omega, by have := HF.out.bel.size; omega⟩
          clear hga k0 k1 k2 k3 k4 k5 k6 k7 k8 k9 k10 k11
          replace HKC := Aside0.mk (Kd.C_below HKC.out (below_alloc (Below.refl _ _) (.cells (asC a (.slice Ab a.f8.length cb)) 36)))
          replace HF := Aside0.mk (HF.out.below (below_alloc (Below.refl _ _) (.cells (asC a (.slice Ab a.f8.length cb)) 36)))
          change Code.wp _ _ _ _ (wr.alloc (.cells (asC a (.slice Ab a.f8.length cb)) 36))
          generalize wr.alloc (.cells (asC a (.slice Ab a.f8.length cb)) 36) = W1 at HA HKC HF ⊢
          obtain ⟨d0, d1, d2, d3, d4, d5, d6, d7, d8, d9, d10, d11⟩ := zc12 HA
          obtain ⟨f0, f1, f2, f3, f4, f5, f6, f7, f8, f9, f10, f11⟩ := zf12 HA
          have s1 : (9223372036854775807 < 5 + a.f0.size) = False := eq_false (by have := HFN.out.f0; omega)
          have s2 : (9223372036854775807 < 5 + a.f0.size + 1) = False := eq_false (by have := HFN.out.f0; omega)
          have s3 : (9223372036854775807 < 5 + a.f0.size + 1 + fp.size) = False := eq_false (by have := HFN.out.f0; have := HFS.out; omega)
          refine start_ (n := 9) (S := fun w' => w'.cell? ⟨ga, 0, none⟩ = some (.string a.f0) ∧ w'.cell? ⟨ga, 1, none⟩ = some (.bool a.f1.f0.f0) ∧ w'.cell? ⟨ga, 2, none⟩ = some (.int .u64 a.f1.f0.f1) ∧ w'.cell? ⟨ga, 3, none⟩ = some (.int .u64 a.f1.f0.f2) ∧ w'.cell? ⟨ga, 4, none⟩ = some (.int .i64 a.f1.f1) ∧ w'.cell? ⟨ga, 5, none⟩ = some (.int .i64 a.f2) ∧ w'.cell? ⟨ga, 6, none⟩ = some (.int .i64 a.f3) ∧ w'.cell? ⟨ga, 7, none⟩ = some (.int .i64 a.f4) ∧ w'.cell? ⟨ga, 8, none⟩ = some (.int .i64 a.f5) ∧ w'.cell? ⟨ga, 9, none⟩ = some (.bool a.f6) ∧ w'.cell? ⟨ga, 10, none⟩ = some (.int .i64 a.f7) ∧ w'.cell? ⟨ga, 11, none⟩ = some (.slice Ab a.f8.length cb)) (ds := []) #[false, false, false, false, false, false, false, false, false] (by kernel_rfl) rfl rfl ⟨zc HA 0, zc HA 1, zc HA 2, zc HA 3, zc HA 4, zc HA 5, zc HA 6, zc HA 7, zc HA 8, zc HA 9, zc HA 10, zc HA 11⟩ (fun hHeld => ?_)
          replace HF := Aside0.mk (HF.out.below (Below.drew (Below.refl _ _)))
          replace HKC := Aside0.mk (Kd.C_below HKC.out (Below.drew (Below.refl _ _)))
          replace HA : Aside0 (W1.drew.heap[ga]? = some (.cells (asC a (.slice Ab a.f8.length cb)) 36 (0, 0))) := ⟨HA.out⟩
          clear d0 d1 d2 d3 d4 d5 d6 d7 d8 d9 d10 d11 f0 f1 f2 f3 f4 f5 f6 f7 f8 f9 f10 f11
          generalize W1.drew = W2 at HA HKC HF hHeld ⊢
          refine zp0 0 20 ?_; refine zp0 4 24 ?_; refine zt0 1 21 hHeld ?_; refine zp0 2 22 ?_; refine zp0 3 23 ?_; refine zt0 5 25 hHeld ?_; refine zo0 6 26 (fun K hK => ?_)
          refine zg Tryz.func39 #[.agg #[.bool a.f1.f0.f0, .int .u64 a.f1.f0.f1, .int .u64 a.f1.f0.f2, .int .i64 a.f1.f1]] ?_
          with_reducible refine (address_FormatPrefix.calls a.f1.f0.f0 a.f1.f0.f1 a.f1.f0.f2 a.f1.f1 fp W2 HFP.out (HW0.out.below (below_then HB2.out HB2.out.size HF.out.bel))).mono ?_
          rintro e w3 ⟨rfl, hb⟩
          refine ⟨_, rfl, ?_⟩
          replace HA := Aside0.mk (blk_below HA.out hb)
          replace HF := Aside0.mk (HF.out.below hb)
          replace HKC := Aside0.mk (Kd.C_below HKC.out hb)
          clear hb
          refine hK.out _ _ ⟨zc HA 0, zc HA 1, zc HA 2, zc HA 3, zc HA 4, zc HA 5, zc HA 6, zc HA 7, zc HA 8, zc HA 9, zc HA 10, zc HA 11⟩ (fun hHeld => ?_)
          clear hK K
          refine zn 26 ?_; refine zp0 7 27 ?_; refine zo0 8 28 (fun K hK => ?_)
          refine zg Tryz.func38 #[.pointer (some ⟨b, 0, none⟩), .string (bHost5 ++ a.f0 ++ sp ++ fp)] ?_
          refine (bld_str w2.heap.size b o (bHost5 ++ a.f0 ++ sp ++ fp) w3 HF.out.bld (by rw [ByteArray.size_append, ByteArray.size_append, ByteArray.size_append]; have := HOL.out; have := HFN.out.f0; have := HFS.out; have : sp.size = 1 := rfl; have : bHost5.size = 5 := rfl; omega) HF.out.bel.size).mono ?_
          rintro e w4 ⟨rfl, hb1, hb2, hb3⟩
          refine ⟨_, rfl, ?_⟩
          have HF4 := Aside0.mk (HF.out.write hb1 hb2)
          have HA4 := Aside0.mk (keepA HA.out HGA.out.1 hb3)
          clear hb1 hb2 hb3
          replace HA := HA4
          replace HF := HF4
          clear HA4 HF4
          refine hK.out _ _ ⟨zc HA 0, zc HA 1, zc HA 2, zc HA 3, zc HA 4, zc HA 5, zc HA 6, zc HA 7, zc HA 8, zc HA 9, zc HA 10, zc HA 11⟩ (fun hHeld => ?_)
          clear hK K
          refine zn 28 ?_; refine zd0 ?_
          replace HF : Aside0 (FmtI w2 w4 b (o ++ headPart a fp)) := ⟨HF.out⟩
          have HL : Aside0 ((o ++ headPart a fp).length ≤ 3002000) := ⟨by rw [List.length_append, headPart, data_length, ByteArray.size_append, ByteArray.size_append, ByteArray.size_append]; have := HOL.out; have := HFN.out.f0; have := HFS.out; have : sp.size = 1 := rfl; have : bHost5.size = 5 := rfl; omega⟩
          have HW2 := Aside0.mk (HW0.out.below HB2.out)
          clear hHeld s1 s2 s3 HKC
          obtain ⟨d0, d1, d2, d3, d4, d5, d6, d7, d8, d9, d10, d11⟩ := zc12 HA
          go_wp2_with fail
          refine (name_walk w2 w4 b (o ++ headPart a fp) ⟨#[112, 111, 108, 105, 99, 121]⟩ a.f2 HF.out (by decide) (by have := HL.out; omega) HFN.out.f2.1 HFN.out.f2.2).mono ?_
          rintro e w5 ⟨rfl, hf, ho⟩
          replace HA := Aside0.mk (keepA HA.out HGA.out.1 ho)
          replace HF := Aside0.mk hf
          replace HL : Aside0 ((o ++ headPart a fp ++ namePart ⟨#[112, 111, 108, 105, 99, 121]⟩ a.f2).length ≤ 3002200) := ⟨by rw [List.length_append]; have := HL.out; have := name_size ⟨#[112, 111, 108, 105, 99, 121]⟩ a.f2 (by decide) HFN.out.f2.1 HFN.out.f2.2; omega⟩
          clear hf ho d0 d1 d2 d3 d4 d5 d6 d7 d8 d9 d10 d11
          obtain ⟨d0, d1, d2, d3, d4, d5, d6, d7, d8, d9, d10, d11⟩ := zc12 HA
          go_wp2_with fail
          refine (name_walk w2 w5 b (o ++ headPart a fp ++ namePart ⟨#[112, 111, 108, 105, 99, 121]⟩ a.f2) ⟨#[102, 114, 97, 103]⟩ a.f3 HF.out (by decide) (by have := HL.out; omega) HFN.out.f3.1 HFN.out.f3.2).mono ?_
          rintro e w6 ⟨rfl, hf, ho⟩
          replace HA := Aside0.mk (keepA HA.out HGA.out.1 ho)
          replace HF := Aside0.mk hf
          replace HL : Aside0 ((o ++ headPart a fp ++ namePart ⟨#[112, 111, 108, 105, 99, 121]⟩ a.f2 ++ namePart ⟨#[102, 114, 97, 103]⟩ a.f3).length ≤ 3002400) := ⟨by rw [List.length_append]; have := HL.out; have := name_size ⟨#[102, 114, 97, 103]⟩ a.f3 (by decide) HFN.out.f3.1 HFN.out.f3.2; omega⟩
          clear hf ho d0 d1 d2 d3 d4 d5 d6 d7 d8 d9 d10 d11
          obtain ⟨d0, d1, d2, d3, d4, d5, d6, d7, d8, d9, d10, d11⟩ := zc12 HA
          go_wp2_with fail
          refine (number_walk w2 w6 b (o ++ headPart a fp ++ namePart ⟨#[112, 111, 108, 105, 99, 121]⟩ a.f2 ++ namePart ⟨#[102, 114, 97, 103]⟩ a.f3) ⟨#[104, 111, 112, 115]⟩ a.f4 0 HF.out HW2.out (by decide) (by have := HL.out; omega) HFN.out.f4.1 HFN.out.f4.2).mono ?_
          rintro e w7 ⟨rfl, hf, ho⟩
          replace HA := Aside0.mk (keepA HA.out HGA.out.1 ho)
          replace HF := Aside0.mk hf
          replace HL : Aside0 ((o ++ headPart a fp ++ namePart ⟨#[112, 111, 108, 105, 99, 121]⟩ a.f2 ++ namePart ⟨#[102, 114, 97, 103]⟩ a.f3 ++ numPart ⟨#[104, 111, 112, 115]⟩ a.f4 0).length ≤ 3002600) := ⟨by rw [List.length_append]; have := HL.out; have := num_size ⟨#[104, 111, 112, 115]⟩ a.f4 0 (by decide) HFN.out.f4.1 HFN.out.f4.2; omega⟩
          clear hf ho d0 d1 d2 d3 d4 d5 d6 d7 d8 d9 d10 d11
          obtain ⟨d0, d1, d2, d3, d4, d5, d6, d7, d8, d9, d10, d11⟩ := zc12 HA
          go_wp2_with fail
          refine (number_walk w2 w7 b (o ++ headPart a fp ++ namePart ⟨#[112, 111, 108, 105, 99, 121]⟩ a.f2 ++ namePart ⟨#[102, 114, 97, 103]⟩ a.f3 ++ numPart ⟨#[104, 111, 112, 115]⟩ a.f4 0) ⟨#[119, 105, 110, 100, 111, 119]⟩ a.f5 8192 HF.out HW2.out (by decide) (by have := HL.out; omega) HFN.out.f5.1 HFN.out.f5.2).mono ?_
          rintro e w8 ⟨rfl, hf, ho⟩
          replace HA := Aside0.mk (keepA HA.out HGA.out.1 ho)
          replace HF := Aside0.mk hf
          replace HL : Aside0 ((o ++ headPart a fp ++ namePart ⟨#[112, 111, 108, 105, 99, 121]⟩ a.f2 ++ namePart ⟨#[102, 114, 97, 103]⟩ a.f3 ++ numPart ⟨#[104, 111, 112, 115]⟩ a.f4 0 ++ numPart ⟨#[119, 105, 110, 100, 111, 119]⟩ a.f5 8192).length ≤ 3002800) := ⟨by rw [List.length_append]; have := HL.out; have := num_size ⟨#[119, 105, 110, 100, 111, 119]⟩ a.f5 8192 (by decide) HFN.out.f5.1 HFN.out.f5.2; omega⟩
          clear hf ho d0 d1 d2 d3 d4 d5 d6 d7 d8 d9 d10 d11
          obtain ⟨d0, d1, d2, d3, d4, d5, d6, d7, d8, d9, d10, d11⟩ := zc12 HA
          go_upto_if 48 with (fail)
          go_cut [3] (fun v3 wc => v3 = .pointer (some ⟨b, 0, none⟩) ∧ Aside0 (FmtI w2 wc b (o ++ headPart a fp ++ namePart ⟨#[112, 111, 108, 105, 99, 121]⟩ a.f2 ++ namePart ⟨#[102, 114, 97, 103]⟩ a.f3 ++ numPart ⟨#[104, 111, 112, 115]⟩ a.f4 0 ++ numPart ⟨#[119, 105, 110, 100, 111, 119]⟩ a.f5 8192 ++ (if a.f6 = true then [32, 115, 116, 97, 109, 112, 115] else []))) ∧ Aside0 (wc.heap[ga]? = some (.cells (asC a (.slice Ab a.f8.length cb)) 36 (0, 0))))
          case first =>
            by_cases hst : a.f6 = true
            · have HST := Aside0.mk hst
              rw [hst]
              go_wp2_with fail
              refine (bld_str w2.heap.size b (o ++ headPart a fp ++ namePart ⟨#[112, 111, 108, 105, 99, 121]⟩ a.f2 ++ namePart ⟨#[102, 114, 97, 103]⟩ a.f3 ++ numPart ⟨#[104, 111, 112, 115]⟩ a.f4 0 ++ numPart ⟨#[119, 105, 110, 100, 111, 119]⟩ a.f5 8192) ⟨#[32, 115, 116, 97, 109, 112, 115]⟩ w8 HF.out.bld (by have := HL.out; have : (⟨#[32, 115, 116, 97, 109, 112, 115]⟩ : ByteArray).size = 7 := rfl; omega) HF.out.bel.size).mono ?_
              rintro e w9 ⟨rfl, hb1, hb2, hb3⟩
              have HF9 := Aside0.mk (HF.out.write hb1 hb2)
              have HA9 := Aside0.mk (keepA HA.out HGA.out.1 hb3)
              clear hb1 hb2 hb3
              go_wp2
              go_meet
              case rel => exact ⟨rfl, ⟨by rw [if_pos HST.out]; exact HF9.out⟩, HA9⟩
            · have HST := Aside0.mk hst
              rw [show a.f6 = false from by simpa using hst]
              go_wp2
              go_meet
              case rel => exact ⟨rfl, ⟨by rw [if_neg HST.out, List.append_nil]; exact HF.out⟩, HA⟩
          case rest =>
            obtain ⟨rfl, HFc, HAc⟩ := hcut
            replace HF := HFc
            replace HA := HAc
            clear HFc HAc d0 d1 d2 d3 d4 d5 d6 d7 d8 d9 d10 d11
            replace HL : Aside0 ((o ++ headPart a fp ++ namePart ⟨#[112, 111, 108, 105, 99, 121]⟩ a.f2 ++ namePart ⟨#[102, 114, 97, 103]⟩ a.f3 ++ numPart ⟨#[104, 111, 112, 115]⟩ a.f4 0 ++ numPart ⟨#[119, 105, 110, 100, 111, 119]⟩ a.f5 8192 ++ (if a.f6 = true then [32, 115, 116, 97, 109, 112, 115] else [])).length ≤ 3002900) := ⟨by rw [List.length_append]; have := HL.out; have := st_size a.f6; omega⟩
            obtain ⟨d0, d1, d2, d3, d4, d5, d6, d7, d8, d9, d10, d11⟩ := zc12 HA
            go_wp2_with fail
            refine (number_walk w2 wc b (o ++ headPart a fp ++ namePart ⟨#[112, 111, 108, 105, 99, 121]⟩ a.f2 ++ namePart ⟨#[102, 114, 97, 103]⟩ a.f3 ++ numPart ⟨#[104, 111, 112, 115]⟩ a.f4 0 ++ numPart ⟨#[119, 105, 110, 100, 111, 119]⟩ a.f5 8192 ++ (if a.f6 = true then [32, 115, 116, 97, 109, 112, 115] else [])) ⟨#[118, 97, 108, 117, 101]⟩ a.f7 1 HF.out HW2.out (by decide) (by have := HL.out; omega) HFN.out.f7.1 HFN.out.f7.2).mono ?_
            rintro e w9 ⟨rfl, hf, ho⟩
            replace HA := Aside0.mk (keepA HA.out HGA.out.1 ho)
            replace HF := Aside0.mk hf
            replace HL : Aside0 ((o ++ headPart a fp ++ namePart ⟨#[112, 111, 108, 105, 99, 121]⟩ a.f2 ++ namePart ⟨#[102, 114, 97, 103]⟩ a.f3 ++ numPart ⟨#[104, 111, 112, 115]⟩ a.f4 0 ++ numPart ⟨#[119, 105, 110, 100, 111, 119]⟩ a.f5 8192 ++ (if a.f6 = true then [32, 115, 116, 97, 109, 112, 115] else []) ++ numPart ⟨#[118, 97, 108, 117, 101]⟩ a.f7 1).length ≤ 3003100) := ⟨by rw [List.length_append]; have := HL.out; have := num_size ⟨#[118, 97, 108, 117, 101]⟩ a.f7 1 (by decide) HFN.out.f7.1 HFN.out.f7.2; omega⟩
            clear hf ho d0 d1 d2 d3 d4 d5 d6 d7 d8 d9 d10 d11
            obtain ⟨o5, ho5⟩ : ∃ x, o ++ headPart a fp ++ namePart ⟨#[112, 111, 108, 105, 99, 121]⟩ a.f2 ++ namePart ⟨#[102, 114, 97, 103]⟩ a.f3 ++ numPart ⟨#[104, 111, 112, 115]⟩ a.f4 0 ++ numPart ⟨#[119, 105, 110, 100, 111, 119]⟩ a.f5 8192 ++ (if a.f6 = true then [32, 115, 116, 97, 109, 112, 115] else []) ++ numPart ⟨#[118, 97, 108, 117, 101]⟩ a.f7 1 = x := ⟨_, rfl⟩
            rw [ho5] at HF HL
            have HL5 := HL
            have HO5 := Aside0.mk ho5
            clear ho5
            obtain ⟨d0, d1, d2, d3, d4, d5, d6, d7, d8, d9, d10, d11⟩ := zc12 HA
            go_upto_region 18 with (fail)
            clear d0 d1 d2 d3 d4 d5 d6 d7 d8 d9 d10 d11
            go_loopg [57] (a.f8.length + 1) (fun gg v57 wr => ∃ j : Nat, v57 = .int .i64 (j : Int) ∧ Aside0 (gg + j = a.f8.length + 1 ∧ j ≤ a.f8.length) ∧ Aside0 (FmtI w2 wr b (o5 ++ ((a.f8.take j).map svcPart).flatten)) ∧ Aside0 (wr.heap[ga]? = some (.cells (asC a (.slice Ab a.f8.length cb)) 36 (0, 0))))
            case atStart => exact ⟨0, rfl, ⟨by omega, by omega⟩, ⟨by simpa using HF.out⟩, HA⟩
            case round =>
              clear HF HA HL
              obtain ⟨j, rfl, HJ, HF, HA⟩ := hrel
              have HB := Aside0.mk (below_then HB2.out HB2.out.size HF.out.bel)
              have HL : Aside0 ((o5 ++ ((a.f8.take j).map svcPart).flatten).length ≤ 3013100) := ⟨by rw [List.length_append]; have := HL5.out; have h1 := svcs_size (a.f8.take j) (fun s hs => HFN.out.sv s (List.mem_of_mem_take hs)); rw [List.length_take] at h1; have := HFN.out.f8; have := HJ.out.2; omega⟩
              by_cases hj : j < a.f8.length
              · have HJJ := Aside0.mk hj
                have c2 : decide ((j : Int) < (a.f8.length : Int)) = true := decide_eq_true (by omega)
                have c2' : decide (j < a.f8.length) = true := decide_eq_true hj
                obtain ⟨ads, rfl, k0, k1, k2⟩ := at_T74 (Kd.C_below HKC0.out HB.out) (j : Int) (by omega) (by omega)
                simp only [Int.toNat_natCast] at k0 k1 k2
                have HTK := Aside0.mk (svc_take hj)
                have HSM := Aside0.mk (HFN.out.sv _ (svc_mem hj))
                obtain ⟨s, hs⟩ : ∃ s, rd_T74 a.f8 (j : Int) = s := ⟨_, rfl⟩
                rw [hs] at k0 k1 k2 HTK HSM
                have c3 : a.f8.length ≤ 1000000 := by have := HFN.out.f8; omega
                clear hs
                go_upto_region 20 with (fail)
                obtain ⟨gs, hgs⟩ : ∃ x, wr.heap.size = x := ⟨_, rfl⟩
                have HS : Aside0 ((wr.alloc (.cells #[.int .i64 s.f0, .int .i64 s.f1, .int .i64 s.f2] 74)).heap[wr.heap.size]? = some (.cells #[.int .i64 s.f0, .int .i64 s.f1, .int .i64 s.f2] 74 (0, 0))) := ⟨heap_alloc_new _ _⟩
                have HGS : Aside0 (wr.heap.size ≠ b) := ⟨by have := HF.out.lt; omega⟩
                rw [hgs] at HS HGS
                simp only [hgs]
                clear hgs k0 k1 k2
                replace HA := Aside0.mk (blk_alloc HA.out (.cells #[.int .i64 s.f0, .int .i64 s.f1, .int .i64 s.f2] 74))
                replace HF := Aside0.mk (HF.out.below (below_alloc (Below.refl _ _) (.cells #[.int .i64 s.f0, .int .i64 s.f1, .int .i64 s.f2] 74)))
                change Code.wp _ _ _ _ (wr.alloc (.cells #[.int .i64 s.f0, .int .i64 s.f1, .int .i64 s.f2] 74))
                generalize wr.alloc (.cells #[.int .i64 s.f0, .int .i64 s.f1, .int .i64 s.f2] 74) = V1 at HA HS HF ⊢
                obtain ⟨e0, e1, e2⟩ := zc3 HS
                go_upto_if 63 with (fail)
                go_cut [10] (fun v10 wc => v10 = .string (if s.f0 = 17 then ⟨#[117, 100, 112]⟩ else ⟨#[116, 99, 112]⟩) ∧ Aside0 (FmtI w2 wc b (o5 ++ ((a.f8.take j).map svcPart).flatten)) ∧ Aside0 (wc.heap[ga]? = some (.cells (asC a (.slice (some ads) a.f8.length cb)) 36 (0, 0))) ∧ Aside0 (wc.heap[gs]? = some (.cells #[.int .i64 s.f0, .int .i64 s.f1, .int .i64 s.f2] 74 (0, 0))))
                case first =>
                  by_cases hp : s.f0 = 17
                  · have c5 : (s.f0 == 17) = true := beq_iff_eq.mpr hp
                    have HP := Aside0.mk hp
                    clear hp
                    (first | rw [c5] | skip)
                    go_wp2
                    go_meet
                    case rel => exact ⟨by rw [if_pos HP.out], HF, HA, HS⟩
                  · have c5 : (s.f0 == 17) = false := beq_eq_false_iff_ne.mpr hp
                    have HP := Aside0.mk hp
                    clear hp
                    (first | rw [c5] | skip)
                    go_wp2
                    go_meet
                    case rel => exact ⟨by rw [if_neg HP.out], HF, HA, HS⟩
                case rest =>
                  clear HF HA HS e0 e1 e2
                  obtain ⟨rfl, HF, HA, HS⟩ := hcut
                  have c6 := pro_size s.f0
                  have HSV : Aside0 (svcPart s = (bSvc9 ++ (if s.f0 = 17 then ⟨#[117, 100, 112]⟩ else ⟨#[116, 99, 112]⟩) ++ sp ++ ⟨(Lib.itoa s.f1).toArray⟩ ++ sp ++ rdOf ByteArray.empty appList s.f2).data.toList) := ⟨rfl⟩
                  obtain ⟨pr, hpr⟩ : ∃ x : ByteArray, (if s.f0 = 17 then ⟨#[117, 100, 112]⟩ else ⟨#[116, 99, 112]⟩ : ByteArray) = x := ⟨_, rfl⟩
                  have c7 := itoa_size HSM.out.1 HSM.out.2.1
                  have c8 := app_size HSM.out.2.2.1 HSM.out.2.2.2
                  have HIT : Aside0 (strconv_Itoa.f s.f1 = some ⟨(Lib.itoa s.f1).toArray⟩) := ⟨if_pos ⟨by have := HSM.out.1; omega, by have := HSM.out.2.1; omega⟩⟩
                  obtain ⟨nm, hnm⟩ : ∃ x, (⟨(Lib.itoa s.f1).toArray⟩ : ByteArray) = x := ⟨_, rfl⟩
                  obtain ⟨ap, hap⟩ : ∃ x, rdOf ByteArray.empty appList s.f2 = x := ⟨_, rfl⟩
                  rw [hpr] at HSV c6 ⊢
                  rw [hnm] at HSV HIT c7
                  rw [hap] at HSV c8
                  have HAP := Aside0.mk hap
                  clear hpr hnm hap
                  have t1 : (9223372036854775807 < 9 + pr.size) = False := eq_false (by omega)
                  have t2 : (9223372036854775807 < 9 + pr.size + 1) = False := eq_false (by omega)
                  have t3 : (9223372036854775807 < 9 + pr.size + 1 + nm.size) = False := eq_false (by omega)
                  have t4 : (9223372036854775807 < 9 + pr.size + 1 + nm.size + 1) = False := eq_false (by omega)
                  have t5 : (9223372036854775807 < 9 + pr.size + 1 + nm.size + 1 + ap.size) = False := eq_false (by omega)
                  have HSZ : Aside0 (pr.size = 3 ∧ nm.size ≤ 30 ∧ ap.size ≤ 10) := ⟨c6, c7, c8⟩
                  clear c6 c7 c8
                  go_upto_region 23 with (fail)
                  refine start_ (n := 15) (S := fun w' => w'.cell? ⟨gs, 0, none⟩ = some (.int .i64 s.f0) ∧ w'.cell? ⟨gs, 1, none⟩ = some (.int .i64 s.f1) ∧ w'.cell? ⟨gs, 2, none⟩ = some (.int .i64 s.f2)) (ds := []) #[false, false, false, false, false, false, false, false, false, false, false, false, false, false, false] (by kernel_rfl) rfl rfl ⟨zc HS 0, zc HS 1, zc HS 2⟩ (fun hHeld => ?_)
                  replace HF := Aside0.mk (HF.out.below (Below.drew (Below.refl _ _)))
                  replace HA : Aside0 (wc.drew.heap[ga]? = some (.cells (asC a (.slice (some ads) a.f8.length cb)) 36 (0, 0))) := ⟨HA.out⟩
                  replace HS : Aside0 (wc.drew.heap[gs]? = some (.cells #[.int .i64 s.f0, .int .i64 s.f1, .int .i64 s.f2] 74 (0, 0))) := ⟨HS.out⟩
                  generalize wc.drew = V2 at HA HS HF hHeld ⊢
                  refine zp0 0 64 ?_; refine zp0 1 65 ?_; refine zp0 2 66 ?_; refine zp0 3 67 ?_; refine zp0 9 73 ?_; refine zt0 4 68 hHeld ?_; refine zt0 10 74 hHeld ?_; refine zo0 5 69 (fun K hK => ?_)
                  refine zg Tryz.func41 #[.int .i64 s.f1] ?_
                  with_reducible refine (strconv_Itoa.calls s.f1 nm V2 HIT.out (HW0.out.below (below_then HB2.out HB2.out.size HF.out.bel))).mono ?_
                  rintro e V3 ⟨rfl, hb⟩
                  refine ⟨_, rfl, ?_⟩
                  replace HA := Aside0.mk (blk_below HA.out hb)
                  replace HS := Aside0.mk (blk_below HS.out hb)
                  replace HF := Aside0.mk (HF.out.below hb)
                  clear hb
                  refine hK.out _ _ ⟨zc HS 0, zc HS 1, zc HS 2⟩ (fun hHeld => ?_)
                  clear hK K
                  refine zn 69 ?_; refine zp0 6 70 ?_; refine zp0 7 71 ?_; refine zo0 8 72 (fun K hK => ?_)
                  refine zg Tryz.func44 #[] ?_
                  with_reducible refine (asset_apps.calls appList V3 rfl).mono ?_
                  rintro e V4 ⟨v, rfl, hlist, hb⟩
                  refine ⟨_, rfl, ?_⟩
                  replace HA := Aside0.mk (blk_below HA.out hb)
                  replace HS := Aside0.mk (blk_below HS.out hb)
                  replace HF := Aside0.mk (HF.out.below hb)
                  clear hb
                  obtain ⟨Al, cl, hv⟩ := Kd.R_slice hlist
                  subst hv
                  have q0 : 0 ≤ s.f2 := HSM.out.2.2.1
                  have q1 : s.f2 < (5 : Int) := by have := HSM.out.2.2.2; omega
                  obtain ⟨adl, hal, hx⟩ := Kd.at_string (Kd.R_reads' hlist).2.2 s.f2 q0 q1
                  subst hal
                  rw [HAP.out] at hx
                  have h5l : appList.length = 5 := rfl
                  rw [h5l]
                  clear hlist
                  replace q0 := eq_true q0
                  replace q1 := eq_true q1
                  refine hK.out _ _ ⟨zc HS 0, zc HS 1, zc HS 2⟩ (fun hHeld => ?_)
                  clear hK K
                  refine zn 72 ?_; refine zp0 11 75 ?_
                  refine zo0 12 76 (fun K hK => ?_)
                  refine value_ (w1 := ?_) (v := ?_) (by rfl) rfl ?_ ?_
                  rotate_left 2
                  · go_simp
                    constructor
                    · rfl
                    · rfl
                  refine hK.out _ _ ⟨zc HS 0, zc HS 1, zc HS 2⟩ (fun hHeld => ?_)
                  clear hK K
                  refine zn 76 ?_; refine zp0 13 77 ?_; refine zo0 14 78 (fun K hK => ?_)
                  refine zg Tryz.func38 #[.pointer (some ⟨b, 0, none⟩), .string (bSvc9 ++ pr ++ sp ++ nm ++ sp ++ ap)] ?_
                  refine (bld_str w2.heap.size b (o5 ++ ((a.f8.take j).map svcPart).flatten) (bSvc9 ++ pr ++ sp ++ nm ++ sp ++ ap) V4 HF.out.bld (svc_len HSZ.out HL.out) HF.out.bel.size).mono ?_
                  rintro e V5 ⟨rfl, hb1, hb2, hb3⟩
                  refine ⟨_, rfl, ?_⟩
                  have HF4 := Aside0.mk (HF.out.write hb1 hb2)
                  have HA4 := Aside0.mk (keepA HA.out HGA.out.1 hb3)
                  have HS4 := Aside0.mk (keepS HS.out HGS.out hb3)
                  clear hb1 hb2 hb3
                  replace HA := HA4
                  replace HF := HF4
                  replace HS := HS4
                  clear HA4 HF4 HS4
                  refine hK.out _ _ ⟨zc HS 0, zc HS 1, zc HS 2⟩ (fun hHeld => ?_)
                  clear hK K
                  refine zn 78 ?_; refine zd0 ?_
                  have HFL : Aside0 (FmtI w2 V5 b (o5 ++ ((a.f8.take (j + 1)).map svcPart).flatten)) := ⟨by rw [HTK.out, HSV.out, ← List.append_assoc]; exact HF.out⟩
                  have HJ1 : Aside0 ((a.f8.length - j) + (j + 1) = a.f8.length + 1 ∧ j + 1 ≤ a.f8.length) := ⟨by have := HJJ.out; omega, HJJ.out⟩
                  go_wp2
                  go_roundg (a.f8.length - j)
                  case measure => have := HJ.out.1; have := HJJ.out; omega
                  case rel => exact ⟨j + 1, by go_num, HJ1, HFL, HA⟩
              · have HJE : Aside0 (a.f8.take j = a.f8) := ⟨List.take_of_length_le (by omega)⟩
                have c2 : decide ((j : Int) < (a.f8.length : Int)) = false := decide_eq_false (by omega)
                have c2' : decide (j < a.f8.length) = false := decide_eq_false hj
                rw [HJE.out] at HF HL
                go_wp2_with fail
                refine (bld_str w2.heap.size b (o5 ++ (a.f8.map svcPart).flatten) ⟨#[59, 10]⟩ wr HF.out.bld (by have := HL.out; have : (⟨#[59, 10]⟩ : ByteArray).size = 2 := rfl; omega) HF.out.bel.size).mono ?_
                rintro e w10 ⟨rfl, hb1, hb2, hb3⟩
                have HF10 := Aside0.mk (HF.out.write hb1 hb2)
                clear hb1 hb2 hb3
                have HNEW : Aside0 (asset_Format.l0 k' l (i + 1) (o ++ linePart a fp) = some out ∧ i + 1 ≤ n ∧ (o ++ linePart a fp).length ≤ 30000 * (i + 1)) := ⟨HNX.out, HII.out, by rw [List.length_append]; have := HIL.out; have := line_size HFN.out HFS.out; omega⟩
                have HFL : Aside0 (FmtI w2 w10 b (o ++ linePart a fp)) := ⟨by have := HF10.out; rw [← HO5.out] at this; unfold linePart; simp only [List.append_assoc] at this ⊢; exact this⟩
                go_wp2
                go_roundg k'
                case measure => exact Nat.lt_succ_self k'
                case rel => exact ⟨i + 1, _, by go_num, HNEW, HFL⟩
        · have HE : Aside0 (o = out) := ⟨format_fin HI.out.1 (by rw [HN.out]; exact hi)⟩
          have b2 : decide ((i : Int) < (n : Int)) = false := decide_eq_false (by omega)
          have b2' : decide (i < n) = false := decide_eq_false hi
          go_wp2_with fail
          refine (bld_string w2.heap.size b o wr HF.out.bld HF.out.bel.size).mono ?_
          rintro e w4 ⟨rfl, hb4⟩
          have HB4 := Aside0.mk hb4
          clear hb4
          go_wp2
          go_ret
          exact ⟨by rw [HE.out]; rfl, below_then HB2.out HB2.out.size (HF.out.bel.trans HB4.out.2.1)⟩
    · rw [if_neg h100] at hr
      cases hr
  · rw [if_neg hz] at hr
    have hr3 := Option.some.inj hr
    subst hr3
    have b1 : (cv != 0) = true := bne_iff_ne.mpr hz
    clear hr hz hn
    go_enter Tryz.func14, Tryz.ntmps14
    go_wp2_with fail
    refine HCK.out.mono ?_
    rintro e w2 ⟨rfl, hb2⟩
    go_wp2
    go_ret
    exact ⟨rfl, hb2⟩
end Go.Proofs.YtnphnhkinjppjaaGreatDoor.Q
end

section
set_option linter.unusedVariables false
set_option linter.unusedSimpArgs false
namespace Go.Proofs.YtnphnhkinjppjaaGreatDoor.Q
open Go.RowKit Go.Proofs.YtnphnhkinjppjaaGreatDoorW.PrintWords Go.Proofs.YtnphnhkinjppjaaGreatDoorW.PrintLast Go.Proofs.YtnphnhkinjppjaaGreatDoorW.PrintMore
def lvA : S36 := ⟨⟨#[97]⟩, ⟨⟨false, 0, 167772160⟩, 8⟩, 1, 1, 0, 8192, false, 2, []⟩
def lvB : S36 := ⟨⟨#[98]⟩, ⟨⟨false, 0, 167772160⟩, 24⟩, 1, 1, 0, 8192, false, 1, [⟨6, 80, 1⟩]⟩
def lvL : List S36 := [lvA, lvB]
def lvT1 : ByteArray := (⟨#[104, 111, 115, 116, 32, 97, 32, 49, 48, 46, 48, 46, 48, 46, 48, 47, 56, 32, 118, 97, 108, 117, 101, 32, 50, 59, 32, 35, 32, 116, 101, 110, 10, 104, 111, 115, 116, 32, 98, 32, 49, 48, 46, 48, 46, 48, 46, 48, 47, 50, 52, 32, 115, 101, 114, 118, 105, 99, 101, 32, 116, 99, 112, 32, 56, 48, 32, 104, 116, 116, 112, 59]⟩ : ByteArray)
def lvT2 : ByteArray := (⟨#[104, 111, 115, 116, 32, 97, 32, 49, 48, 46, 48, 46, 48, 46, 48, 47, 56, 32, 115, 112, 101, 101, 100, 32, 51, 59]⟩ : ByteArray)
def lvT3 : ByteArray := (⟨#[104, 111, 115, 116, 32, 97, 32, 49, 48, 46, 48, 46, 48, 46, 48, 47, 56, 32, 118, 97, 108, 117, 101, 32, 50, 59, 10]⟩ : ByteArray)
theorem lives18.e1 : asset_Parse.f 200 lvT1 = some (lvL, 0, 0) := by kernel_rfl
theorem lives18.e2 : asset_Parse.f 200 lvT2 = some ([], 15, 18) := by kernel_rfl
theorem lives18.e3 : asset_Check.f 200 lvL = some 0 := by kernel_rfl
theorem lives18.e4 : asset_App.f 200 lvB.f0 lvB.f1.f0.f0 lvB.f1.f0.f1 lvB.f1.f0.f2 lvB.f1.f1 lvB.f2 lvB.f3 lvB.f4 lvB.f5 lvB.f6 lvB.f7 lvB.f8 6 80 = some 1 := by kernel_rfl
theorem lives18.e5 : asset_Find.f lvL false 0 167772161 = some lvB := by kernel_rfl
theorem lives18.e6 : asset_Find.f lvL false 0 167837696 = some lvA := by kernel_rfl
theorem lives18.e7 : asset_Find.f lvL false 0 0 = some aDef := by kernel_rfl
theorem lives18.e8 : asset_Format.f 200 [lvA] = some lvT3 := by kernel_rfl
theorem lives18.e9 : asset_Check.f 200 [lvA, lvA] = some 7 := by kernel_rfl
theorem one_C {w : World} {A : Option Addr} {a b : S36} (h : Kd.C k36 w A 2 [a, b]) : Kd.C k36 w A 1 [a] := by
  obtain ⟨ad, e, hc⟩ := h.2.2 (by decide)
  refine ⟨rfl, by decide, fun _ => ⟨ad, e, fun j p hj => ?_⟩⟩
  match j, hj with
  | 0, hj => exact hc 0 p hj
  | j + 1, hj => simp at hj
theorem two_C {w : World} {A : Option Addr} {c base : Nat} {a : S36} {c0 : List Value} (ho : w.ownsRow base 36 12 (.slice A 2 c) 2 (c0 ++ c0)) (hl : c0.length = 12) (hK : (k36).K w a c0) : Kd.C k36 w A 2 [a, a] := by
  obtain ⟨ad, e, hc⟩ := q_cells (q_of_own ho) (by decide)
  refine ⟨rfl, by decide, fun _ => ⟨ad, e, fun j p hj => ?_⟩⟩
  match j, hj with
  | 0, hj =>
    cases Option.some.inj hj
    refine ⟨c0, hl, hK, fun i u hu => hc _ u ?_⟩
    rw [Nat.zero_mul, Nat.zero_add, List.getElem?_append_left (List.getElem?_eq_some_iff.mp hu).1]
    exact hu
  | 1, hj =>
    cases Option.some.inj hj
    refine ⟨c0, hl, hK, fun i u hu => hc _ u ?_⟩
    have e2 : 1 * (k36).sz + i = c0.length + i := by rw [hl, Nat.one_mul]; rfl
    rw [e2, List.getElem?_append_right (by omega), Nat.add_sub_cancel_left]
    exact hu
  | j + 2, hj => simp at hj
abbrev lvS (g : Nat) (Aa : Option Addr) (ca : Nat) (Ab : Option Addr) (cb : Nat) (w : World) : Prop := w.cell? ⟨g, 0, none⟩ = some (.string ⟨#[97]⟩) ∧ w.cell? ⟨g, 1, none⟩ = some (.bool false) ∧ w.cell? ⟨g, 2, none⟩ = some (.int .u64 0) ∧ w.cell? ⟨g, 3, none⟩ = some (.int .u64 167772160) ∧ w.cell? ⟨g, 4, none⟩ = some (.int .i64 8) ∧ w.cell? ⟨g, 5, none⟩ = some (.int .i64 1) ∧ w.cell? ⟨g, 6, none⟩ = some (.int .i64 1) ∧ w.cell? ⟨g, 7, none⟩ = some (.int .i64 0) ∧ w.cell? ⟨g, 8, none⟩ = some (.int .i64 8192) ∧ w.cell? ⟨g, 9, none⟩ = some (.bool false) ∧ w.cell? ⟨g, 10, none⟩ = some (.int .i64 2) ∧ w.cell? ⟨g, 11, none⟩ = some (.slice Aa 0 ca) ∧ w.cell? ⟨g, 12, none⟩ = some (.string ⟨#[98]⟩) ∧ w.cell? ⟨g, 13, none⟩ = some (.bool false) ∧ w.cell? ⟨g, 14, none⟩ = some (.int .u64 0) ∧ w.cell? ⟨g, 15, none⟩ = some (.int .u64 167772160) ∧ w.cell? ⟨g, 16, none⟩ = some (.int .i64 24) ∧ w.cell? ⟨g, 17, none⟩ = some (.int .i64 1) ∧ w.cell? ⟨g, 18, none⟩ = some (.int .i64 1) ∧ w.cell? ⟨g, 19, none⟩ = some (.int .i64 0) ∧ w.cell? ⟨g, 20, none⟩ = some (.int .i64 8192) ∧ w.cell? ⟨g, 21, none⟩ = some (.bool false) ∧ w.cell? ⟨g, 22, none⟩ = some (.int .i64 1) ∧ w.cell? ⟨g, 23, none⟩ = some (.slice Ab 1 cb)
theorem lvS.below {g : Nat} {Aa : Option Addr} {ca : Nat} {Ab : Option Addr} {cb : Nat} {w w1 : World} (h : lvS g Aa ca Ab cb w) (hb : Below w.heap.size w w1) : lvS g Aa ca Ab cb w1 := by
  obtain ⟨h0, h1, h2, h3, h4, h5, h6, h7, h8, h9, h10, h11, h12, h13, h14, h15, h16, h17, h18, h19, h20, h21, h22, h23⟩ := h
  exact ⟨pw_cell_below hb h0, pw_cell_below hb h1, pw_cell_below hb h2, pw_cell_below hb h3, pw_cell_below hb h4, pw_cell_below hb h5, pw_cell_below hb h6, pw_cell_below hb h7, pw_cell_below hb h8, pw_cell_below hb h9, pw_cell_below hb h10, pw_cell_below hb h11, pw_cell_below hb h12, pw_cell_below hb h13, pw_cell_below hb h14, pw_cell_below hb h15, pw_cell_below hb h16, pw_cell_below hb h17, pw_cell_below hb h18, pw_cell_below hb h19, pw_cell_below hb h20, pw_cell_below hb h21, pw_cell_below hb h22, pw_cell_below hb h23⟩
theorem lvS.of {w : World} {g : Nat} (h : Kd.C k36 w (some ⟨g, 0, none⟩) 2 lvL) : ∃ Aa ca Ab cb, lvS g Aa ca Ab cb w ∧ 1 ≤ cb ∧ Kd.C k74 w Aa 0 [] ∧ Kd.C k74 w Ab 1 lvB.f8 := by
  obtain ⟨ad, Aa, ca, he, a0, a1, a2, a3, a4, a5, a6, a7, a8, a9, a10, a11, al, ac⟩ := at_T36 h 0 (by decide) (by decide)
  cases Option.some.inj he
  obtain ⟨ad', Ab, cb, he, b0, b1, b2, b3, b4, b5, b6, b7, b8, b9, b10, b11, bl, bc⟩ := at_T36 h 1 (by decide) (by decide)
  cases Option.some.inj he
  exact ⟨Aa, ca, Ab, cb, ⟨a0, a1, a2, a3, a4, a5, a6, a7, a8, a9, a10, a11, b0, b1, b2, b3, b4, b5, b6, b7, b8, b9, b10, b11⟩, bl, ac, bc⟩
theorem fld_name (s : ByteArray) (x1 : Bool) (x2 x3 x4 x5 x6 x7 x8 : Int) (x9 : Bool) (x10 : Int) (v : Value) (w : World) : (Instr.field 36 (.agg #[.string s, .bool x1, .int .u64 x2, .int .u64 x3, .int .i64 x4, .int .i64 x5, .int .i64 x6, .int .i64 x7, .int .i64 x8, .bool x9, .int .i64 x10, v]) 0).run Tryz.prog w = .ok (.string s) w := by kernel_rfl
def intrusionlaw18_lives.f (k : Nat) : Option Bool := some true
theorem intrusionlaw18_lives.mono : ∀ k, LeO (intrusionlaw18_lives.f k) (intrusionlaw18_lives.f (k + 1)) := fun k => LeO.refl _
set_option maxHeartbeats 8000000 in
set_option maxRecDepth 100000 in
theorem intrusionlaw18_lives.calls (k : Nat) (r : Bool) (w : World) (h : intrusionlaw18_lives.f k = some r) (hW : WOK w) :
    Calls Tryz.prog 11 #[] w fun e w' => e = .returned (.bool r) ∧ Below w.heap.size w w' := by
  injection h with h
  subst h
  have hu := Tryz.underlying36
  have hu2 := Tryz.underlying22
  have hu3 := Tryz.underlying31
  have HW := Aside0.mk hW
  clear hW
  go_enter Tryz.func11, Tryz.ntmps11
  go_wp2_with fail
  refine (asset_Parse.calls 200 lvT1 _ _ _ w lives18.e1 HW.out).mono ?_
  rintro e w1 ⟨v, rfl, ho, hb⟩
  obtain ⟨g1, c1, hv, _⟩ := Kd.R_form ho (by decide)
  rw [show lvL.length = 2 from rfl] at hv
  subst hv
  have HC : Aside0 (Kd.C k36 w1 (some ⟨g1, 0, none⟩) 2 lvL) := ⟨(Kd.R_reads' ho).2.2⟩
  have HCAP : Aside0 (2 ≤ c1) := ⟨(Kd.R_reads' ho).2.1⟩
  have HB := Aside0.mk hb
  clear ho hb
  go_wp2_with fail
  refine (asset_Parse.calls 200 lvT2 _ _ _ w1 lives18.e2 (HW.out.below HB.out)).mono ?_
  rintro e w2 ⟨v, rfl, ho, hb⟩
  have HB1 : Aside0 (Below w1.heap.size w1 w2) := ⟨hb⟩
  clear ho hb
  go_wp2_with fail
  refine (new_ok 200 (some ⟨g1, 0, none⟩) c1 lvL w2 (Kd.C_below HC.out HB1.out) HCAP.out lives18.e3 (by decide) (by decide)).mono ?_
  rintro e w3 ⟨wn, p, v3, rfl, hbn, hT⟩
  have HB3 : Aside0 (Below w2.heap.size w2 w3) := ⟨below_then hbn hbn.size hT.bel⟩
  have HT := Aside0.mk hT
  have HBA := Aside0.mk (below_then HB.out HB.out.size (below_then HB1.out HB1.out.size HB3.out))
  replace HC := Aside0.mk (Kd.C_below HC.out (below_then HB1.out HB1.out.size HB3.out))
  replace HB := HBA
  clear HB1 HB3 HBA hbn hT
  obtain ⟨Aa, ca, Ab, cb, hS, hcb, ac, bc⟩ := lvS.of HC.out
  have HS := Aside0.mk hS
  have HAC := Aside0.mk ac
  have HBC := Aside0.mk bc
  clear hS ac bc
  have hfl := fld_name
  have hcap : 2 ≤ c1 := HCAP.out
  have hcapI : ((1 : Int) ≤ (c1 : Int)) = True := eq_true (by omega)
  go_upto_region 6 with (fail)
  refine start_ (n := 58) (S := fun w' => lvS g1 Aa ca Ab cb w') (ds := []) #[false, false, false, false, false, false, false, false, false, false, false, false, false, false, false, false, false, false, false, false, false, false, false, false, false, false, false, false, false, false, false, false, false, false, false, false, false, false, false, false, false, false, false, false, false, false, false, false, false, false, false, false, false, false, false, false, false, false] (by kernel_rfl) rfl rfl (lvS.below HS.out (below_drew (Below.refl _ _))) (fun hHeld => ?_)
  replace HC := Aside0.mk (Kd.C_drew HC.out)
  replace HAC := Aside0.mk (Kd.C_drew HAC.out)
  replace HBC := Aside0.mk (Kd.C_drew HBC.out)
  replace HB := Aside0.mk (below_drew HB.out)
  replace HT := Aside0.mk (HT.out.below (below_drew (Below.refl _ _)))
  clear HS
  generalize w3.drew = W3 at HC HAC HBC HB HT hHeld ⊢
  refine zp0 0 51 ?_
  refine zp0 1 52 ?_
  refine zp0 2 53 ?_
  refine zt0 3 54 hHeld ?_
  refine zp0 4 55 ?_
  refine zp0 5 56 ?_
  refine zp0 6 57 ?_
  refine zp0 7 58 ?_
  refine zp0 8 59 ?_
  refine zt0 9 60 hHeld ?_
  refine zp0 10 61 ?_
  refine zp0 11 62 ?_
  refine zp0 12 63 ?_
  refine zp0 13 64 ?_
  refine zp0 14 65 ?_
  refine zt0 15 66 hHeld ?_
  refine zo0 16 67 (fun K hK => ?_)
  refine zg Tryz.func19 #[.agg #[.string ⟨#[98]⟩, .bool false, .int .u64 0, .int .u64 167772160, .int .i64 24, .int .i64 1, .int .i64 1, .int .i64 0, .int .i64 8192, .bool false, .int .i64 1, .slice Ab 1 cb], .int .i64 6, .int .i64 80] ?_
  refine (asset_App.calls 200 lvB.f0 lvB.f1.f0.f0 lvB.f1.f0.f1 lvB.f1.f0.f2 lvB.f1.f1 lvB.f2 lvB.f3 lvB.f4 lvB.f5 lvB.f6 lvB.f7 Ab cb lvB.f8 6 80 1 W3 HBC.out hcb lives18.e4).mono ?_
  rintro e W4 ⟨rfl, hb⟩
  refine ⟨.int .i64 1, rfl, ?_⟩
  replace HC := Aside0.mk (Kd.C_below HC.out hb)
  replace HAC := Aside0.mk (Kd.C_below HAC.out hb)
  replace HBC := Aside0.mk (Kd.C_below HBC.out hb)
  replace HB := Aside0.mk (below_then HB.out HB.out.size hb)
  replace HT := Aside0.mk (HT.out.below hb)
  refine hK.out _ _ (lvS.below hHeld hb) (fun hHeld => ?_)
  clear hK K hb
  refine zn 67 ?_
  refine zp0 17 68 ?_
  refine zp0 18 69 ?_
  refine zp0 19 70 ?_
  refine zp0 20 71 ?_
  refine zp0 21 72 ?_
  refine zo0 22 73 (fun K hK => ?_)
  refine zg Tryz.func27 #[.pointer (some ⟨p, 0, none⟩), .agg #[.bool false, .int .u64 0, .int .u64 167772161]] ?_
  refine (find_ok wn W4 p lvL v3 false 0 167772161 lvB HT.out (by decide) (by decide) lives18.e5).mono ?_
  rintro e W5 ⟨v122, rfl, _, hb⟩
  refine ⟨.agg #[.string ⟨#[98]⟩, .bool false, .int .u64 0, .int .u64 167772160, .int .i64 24, .int .i64 1, .int .i64 1, .int .i64 0, .int .i64 8192, .bool false, .int .i64 1, v122], rfl, ?_⟩
  replace HC := Aside0.mk (Kd.C_below HC.out hb)
  replace HAC := Aside0.mk (Kd.C_below HAC.out hb)
  replace HBC := Aside0.mk (Kd.C_below HBC.out hb)
  replace HB := Aside0.mk (below_then HB.out HB.out.size hb)
  replace HT := Aside0.mk (HT.out.below hb)
  refine hK.out _ _ (lvS.below hHeld hb) (fun hHeld => ?_)
  clear hK K hb
  refine zn 73 ?_
  refine zp0 23 74 ?_
  refine zp0 24 75 ?_
  refine zp0 25 76 ?_
  refine zp0 26 77 ?_
  refine zp0 27 78 ?_
  refine zp0 28 79 ?_
  refine zo0 29 80 (fun K hK => ?_)
  refine zg Tryz.func27 #[.pointer (some ⟨p, 0, none⟩), .agg #[.bool false, .int .u64 0, .int .u64 167837696]] ?_
  refine (find_ok wn W5 p lvL v3 false 0 167837696 lvA HT.out (by decide) (by decide) lives18.e6).mono ?_
  rintro e W6 ⟨v129, rfl, _, hb⟩
  refine ⟨.agg #[.string ⟨#[97]⟩, .bool false, .int .u64 0, .int .u64 167772160, .int .i64 8, .int .i64 1, .int .i64 1, .int .i64 0, .int .i64 8192, .bool false, .int .i64 2, v129], rfl, ?_⟩
  replace HC := Aside0.mk (Kd.C_below HC.out hb)
  replace HAC := Aside0.mk (Kd.C_below HAC.out hb)
  replace HBC := Aside0.mk (Kd.C_below HBC.out hb)
  replace HB := Aside0.mk (below_then HB.out HB.out.size hb)
  replace HT := Aside0.mk (HT.out.below hb)
  refine hK.out _ _ (lvS.below hHeld hb) (fun hHeld => ?_)
  clear hK K hb
  refine zn 80 ?_
  refine zp0 30 81 ?_
  refine zp0 31 82 ?_
  refine zp0 32 83 ?_
  refine zp0 33 84 ?_
  refine zp0 34 85 ?_
  refine zp0 35 86 ?_
  refine zo0 36 87 (fun K hK => ?_)
  refine zg Tryz.func27 #[.pointer (some ⟨p, 0, none⟩), .agg #[.bool false, .int .u64 0, .int .u64 0]] ?_
  refine (find_ok wn W6 p lvL v3 false 0 0 aDef HT.out (by decide) (by decide) lives18.e7).mono ?_
  rintro e W7 ⟨v136, rfl, _, hb⟩
  refine ⟨.agg #[.string ⟨#[100, 101, 102, 97, 117, 108, 116]⟩, .bool false, .int .u64 0, .int .u64 0, .int .i64 0, .int .i64 1, .int .i64 1, .int .i64 0, .int .i64 8192, .bool false, .int .i64 1, v136], rfl, ?_⟩
  replace HC := Aside0.mk (Kd.C_below HC.out hb)
  replace HAC := Aside0.mk (Kd.C_below HAC.out hb)
  replace HBC := Aside0.mk (Kd.C_below HBC.out hb)
  replace HB := Aside0.mk (below_then HB.out HB.out.size hb)
  replace HT := Aside0.mk (HT.out.below hb)
  refine hK.out _ _ (lvS.below hHeld hb) (fun hHeld => ?_)
  clear hK K hb
  refine zn 87 ?_
  refine zp0 37 88 ?_
  refine zp0 38 89 ?_
  refine zp0 39 90 ?_
  refine zp0 40 91 ?_
  refine zp0 41 92 ?_
  refine zp0 42 93 ?_
  refine zo0 43 94 (fun K hK => ?_)
  refine zg Tryz.func14 #[.slice (some ⟨g1, 0, none⟩) 1 c1] ?_
  refine (asset_Format.calls 200 (some ⟨g1, 0, none⟩) c1 [lvA] lvT3 W7 (one_C HC.out) (Nat.le_of_succ_le hcap) lives18.e8 (HW.out.below HB.out)).mono ?_
  rintro e W8 ⟨rfl, hb⟩
  refine ⟨.string ⟨#[104, 111, 115, 116, 32, 97, 32, 49, 48, 46, 48, 46, 48, 46, 48, 47, 56, 32, 118, 97, 108, 117, 101, 32, 50, 59, 10]⟩, rfl, ?_⟩
  replace HC := Aside0.mk (Kd.C_below HC.out hb)
  replace HAC := Aside0.mk (Kd.C_below HAC.out hb)
  replace HBC := Aside0.mk (Kd.C_below HBC.out hb)
  replace HB := Aside0.mk (below_then HB.out HB.out.size hb)
  replace HT := Aside0.mk (HT.out.below hb)
  refine hK.out _ _ (lvS.below hHeld hb) (fun hHeld => ?_)
  clear hK K hb
  refine zn 94 ?_
  refine zp0 44 95 ?_
  refine zp0 45 96 ?_
  refine zp0 46 97 ?_
  refine zp0 47 98 ?_
  refine zp0 48 99 ?_
  refine zp0 49 100 ?_
  refine zp0 50 101 ?_
  refine zt0 51 102 hHeld ?_
  refine zo0 52 103 (fun K hK => ?_)
  refine value_ (w1 := ?_) (v := ?_) (by rfl) rfl ?_ ?_
  rotate_left 2
  · go_simp
    constructor
    · rfl
    · rfl
  have hb := below_alloc (Below.refl _ W8) (.cells #[.string ⟨#[97]⟩, .bool false, .int .u64 0, .int .u64 167772160, .int .i64 8, .int .i64 1, .int .i64 1, .int .i64 0, .int .i64 8192, .bool false, .int .i64 2, .slice Aa 0 ca] 36)
  refine hK.out _ _ (lvS.below hHeld hb) (fun hHeld => ?_)
  clear hK K
  refine zn 103 ?_
  have HN : Aside0 ((W8.alloc (.cells #[.string ⟨#[97]⟩, .bool false, .int .u64 0, .int .u64 167772160, .int .i64 8, .int .i64 1, .int .i64 1, .int .i64 0, .int .i64 8192, .bool false, .int .i64 2, .slice Aa 0 ca] 36)).heap[W8.heap.size]? = some (.cells #[.string ⟨#[97]⟩, .bool false, .int .u64 0, .int .u64 167772160, .int .i64 8, .int .i64 1, .int .i64 1, .int .i64 0, .int .i64 8192, .bool false, .int .i64 2, .slice Aa 0 ca] 36 (0, 0))) := ⟨heap_alloc_new _ _⟩
  replace HC := Aside0.mk (Kd.C_below HC.out hb)
  replace HAC := Aside0.mk (Kd.C_below HAC.out hb)
  replace HB := Aside0.mk (below_then HB.out HB.out.size hb)
  clear hb HT HBC
  generalize W8.heap.size = gn at HN ⊢
  generalize W8.alloc (.cells #[.string ⟨#[97]⟩, .bool false, .int .u64 0, .int .u64 167772160, .int .i64 8, .int .i64 1, .int .i64 1, .int .i64 0, .int .i64 8192, .bool false, .int .i64 2, .slice Aa 0 ca] 36) = U1 at HN HC HAC HB hHeld ⊢
  have hOld : ∀ j u, (#[.string ⟨#[97]⟩, .bool false, .int .u64 0, .int .u64 167772160, .int .i64 8, .int .i64 1, .int .i64 1, .int .i64 0, .int .i64 8192, .bool false, .int .i64 2, .slice Aa 0 ca] : Array Value).toList[j]? = some u → U1.cell? ((⟨g1, 0, none⟩ : Addr).add j) = some u := by
    intro j u hj
    obtain ⟨h0, h1, h2, h3, h4, h5, h6, h7, h8, h9, h10, h11, h12, h13, h14, h15, h16, h17, h18, h19, h20, h21, h22, h23⟩ := hHeld
    rcases j with _ | _ | _ | _ | _ | _ | _ | _ | _ | _ | _ | _ | j
    · cases Option.some.inj hj; exact h0
    · cases Option.some.inj hj; exact h1
    · cases Option.some.inj hj; exact h2
    · cases Option.some.inj hj; exact h3
    · cases Option.some.inj hj; exact h4
    · cases Option.some.inj hj; exact h5
    · cases Option.some.inj hj; exact h6
    · cases Option.some.inj hj; exact h7
    · cases Option.some.inj hj; exact h8
    · cases Option.some.inj hj; exact h9
    · cases Option.some.inj hj; exact h10
    · cases Option.some.inj hj; exact h11
    · simp at hj
  have hNew : ∀ j u, (#[.string ⟨#[97]⟩, .bool false, .int .u64 0, .int .u64 167772160, .int .i64 8, .int .i64 1, .int .i64 1, .int .i64 0, .int .i64 8192, .bool false, .int .i64 2, .slice Aa 0 ca] : Array Value).toList[j]? = some u → U1.cell? ((⟨gn, 0, none⟩ : Addr).add j) = some u := fun j u hj => by
    rw [Addr.add_lit, Nat.zero_add, blk_cell HN.out j, ← Array.getElem?_toList]
    exact hj
  obtain ⟨v5, U2, hrun, hown, hgr⟩ := run_append_arg_grows (P := Tryz.prog) U1 22 22 36 _ _ 12 120 hu2 rfl rfl rfl rfl rfl (by decide) ⟨g1, 0, none⟩ 1 1 (#[.string ⟨#[97]⟩, .bool false, .int .u64 0, .int .u64 167772160, .int .i64 8, .int .i64 1, .int .i64 1, .int .i64 0, .int .i64 8192, .bool false, .int .i64 2, .slice Aa 0 ca] : Array Value).toList rfl hOld ⟨gn, 0, none⟩ 1 1 (#[.string ⟨#[97]⟩, .bool false, .int .u64 0, .int .u64 167772160, .int .i64 8, .int .i64 1, .int .i64 1, .int .i64 0, .int .i64 8192, .bool false, .int .i64 2, .slice Aa 0 ca] : Array Value).toList rfl hNew (by decide) (by decide) (by decide)
  obtain ⟨A5, c5, hv5, hc5⟩ := q_slice (q_of_own hown)
  subst hv5
  have HB5 := Aside0.mk ((Below.refl _ U1).grown hgr (Nat.le_refl _) (by simp))
  have hCC : Kd.C k36 U2 A5 2 [lvA, lvA] := two_C hown rfl (k36_mk U2 lvA (A11 := Aa) (c11 := ca) (Nat.zero_le _) (Kd.C_below HAC.out HB5.out))
  refine zo0 53 104 (fun K hK => ?_)
  refine value_ (w1 := U2) (v := .slice A5 2 c5) (by rfl) rfl ?_ ?_
  · simp [execOp, resolve, invoke, builtin, Act.eval, hrun, Result.andThen]
  refine hK.out _ _ (lvS.below hHeld HB5.out) (fun hHeld => ?_)
  clear hK K hrun hown hgr hOld hNew
  refine zn 104 ?_
  refine zo0 54 105 (fun K hK => ?_)
  refine zg Tryz.func12 #[.slice A5 2 c5] ?_
  refine (asset_Check.calls 200 A5 c5 [lvA, lvA] 7 U2 hCC hc5 lives18.e9).mono ?_
  rintro e U3 ⟨rfl, hb⟩
  refine ⟨.int .i64 7, rfl, ?_⟩
  refine hK.out _ _ (lvS.below hHeld hb) (fun hHeld => ?_)
  have HBE := Aside0.mk (below_then HB.out HB.out.size (below_then HB5.out HB5.out.size hb))
  clear hK K hb hCC HB HB5 HC HAC HN
  refine zn 105 ?_
  refine zp0 55 106 ?_
  refine zp0 56 107 ?_
  refine zp0 57 0 ?_
  refine zd0 ?_
  go_wp2
  go_ret
  exact ⟨rfl, HBE.out⟩
end Go.Proofs.YtnphnhkinjppjaaGreatDoor.Q
end

section
namespace Go.Proofs.YtnphnhkinjppjaaGreatDoor.Q
open Go.RowKit Go.Proofs.YtnphnhkinjppjaaGreatDoorW.PrintWords Go.Proofs.YtnphnhkinjppjaaGreatDoorW.PrintLast Go.Proofs.YtnphnhkinjppjaaGreatDoorW.PrintMore
attribute [local go_sem] max2_int min2_int max_two min_two max_three min_three max_four min_four
set_option linter.unusedVariables false
set_option linter.unusedSimpArgs false
def intrusionlaw18_AssetApps.f (k : Nat) (a0_0 : ByteArray) (a0_1 : Bool) (a0_2 : Int) (a0_3 : Int) (a0_4 : Int) (a0_5 : Int) (a0_6 : Int) (a0_7 : Int) (a0_8 : Int) (a0_9 : Bool) (a0_10 : Int) (l0_11 : List (S74)) (a1 : Int) (a2 : Int) : Option (Bool) := if (l0_11.length : Int) > 20 then ((intrusionlaw18_lives.f k).bind fun t433 => (some t433)) else ((asset_App.f k a0_0 a0_1 a0_2 a0_3 a0_4 a0_5 a0_6 a0_7 a0_8 a0_9 a0_10 l0_11 a1 a2).bind fun t434 => ((intrusionref18_App.f k a0_0 a0_1 a0_2 a0_3 a0_4 a0_5 a0_6 a0_7 a0_8 a0_9 a0_10 l0_11 a1 a2).bind fun t435 => (if t434 = t435 then ((intrusionlaw18_lives.f k).bind fun t436 => (some t436)) else (some false))))
theorem intrusionlaw18_AssetApps.mono : ∀ a0 a1 a2 a3 a4 a5 a6 a7 a8 a9 a10 a11 a12 a13 k, LeO (intrusionlaw18_AssetApps.f k a0 a1 a2 a3 a4 a5 a6 a7 a8 a9 a10 a11 a12 a13) (intrusionlaw18_AssetApps.f (k + 1) a0 a1 a2 a3 a4 a5 a6 a7 a8 a9 a10 a11 a12 a13) := by
  intro a0 a1 a2 a3 a4 a5 a6 a7 a8 a9 a10 a11 a12 a13 k
  unfold intrusionlaw18_AssetApps.f
  repeat' first
      | (with_reducible exact asset_App.mono _ _ _ _ _ _ _ _ _ _ _ _ _ _ _)
      | (with_reducible exact intrusionlaw18_lives.mono _)
      | (with_reducible exact intrusionref18_App.mono _ _ _ _ _ _ _ _ _ _ _ _ _ _ _)
      | (with_reducible exact LeO.refl _)
      | (with_reducible exact LeO.none _)
      | (with_reducible refine LeO.ite ?_ ?_)
      | (with_reducible refine LeO.bind ?_ (fun _ => ?_))
      | exact asset_App.mono _ _ _ _ _ _ _ _ _ _ _ _ _ _ _
      | exact intrusionlaw18_lives.mono _
      | exact intrusionref18_App.mono _ _ _ _ _ _ _ _ _ _ _ _ _ _ _
      | exact LeO.none _
      | refine LeO.ite ?_ ?_
      | refine LeO.bind ?_ (fun _ => ?_)
def intrusionlaw18_AssetApps.T3 : Bool × List (List Nat × List Nat) := (true, [([], []), ([], []), ([], []), ([0, 1, 2], [0, 1, 2]), ([], []), ([], []), ([], []), ([4, 5, 6, 3], [4, 5, 6]), ([3, 7], [3, 7]), ([8, 7], [8]), ([9, 9], [9]), ([9, 10], [9, 10]), ([11, 10, 0, 1, 2, 3, 4, 5, 6, 7, 8, 9, 10, 11], [11])])
def intrusionlaw18_AssetApps.B3 : List Nat := [0, 0, 0, 7, 0, 0, 0, 127, 255, 511, 1023, 2047, 4095]
theorem intrusionlaw18_AssetApps.tab3 : rtab .any (opsOf Tryz.f4 3) = intrusionlaw18_AssetApps.T3 := by kernel_rfl
theorem intrusionlaw18_AssetApps.bits3 : waitsOk intrusionlaw18_AssetApps.T3.2 intrusionlaw18_AssetApps.B3 = true := by kernel_rfl
set_option maxHeartbeats 8000000 in
set_option maxRecDepth 100000 in
theorem intrusionlaw18_AssetApps.calls (k : Nat) (a0_0 : ByteArray) (a0_1 : Bool) (a0_2 : Int) (a0_3 : Int) (a0_4 : Int) (a0_5 : Int) (a0_6 : Int) (a0_7 : Int) (a0_8 : Int) (a0_9 : Bool) (a0_10 : Int) (A0_11 : Option Addr) (c0_11 : Nat) (l0_11 : List (S74)) (a1 : Int) (a2 : Int) (r : Bool) (w : World) (hr0_11 : Kd.C k74 w A0_11 l0_11.length l0_11) (hc0_11 : l0_11.length ≤ c0_11) (h : intrusionlaw18_AssetApps.f k a0_0 a0_1 a0_2 a0_3 a0_4 a0_5 a0_6 a0_7 a0_8 a0_9 a0_10 l0_11 a1 a2 = some r) (hW_ : WOK w) :
 Calls Tryz.prog 4 #[.agg #[.string a0_0, .bool a0_1, .int .u64 a0_2, .int .u64 a0_3, .int .i64 a0_4, .int .i64 a0_5, .int .i64 a0_6, .int .i64 a0_7, .int .i64 a0_8, .bool a0_9, .int .i64 a0_10, .slice A0_11 l0_11.length c0_11], .int .i64 a1, .int .i64 a2] w fun e w' => e = .returned (.bool r) ∧ Below w.heap.size w w' := by
 have hu36 := Tryz.underlying36
 have HR0_11 := Aside0.mk hr0_11
 have HC0_11 := Aside0.mk hc0_11
 clear hr0_11 hc0_11
 have HB := Aside0.mk (Below.refl w.heap.size w)
 unfold intrusionlaw18_AssetApps.f at h; have H := h
 clear h
 by_cases c4 : (l0_11.length : Int) > 20
 · rw [if_pos c4] at H
   have c4b0 : decide (20 < (l0_11.length : Int)) = true := decide_eq_true c4
   have c4b1 : decide (20 < l0_11.length) = true := decide_eq_true (by omega)
   clear c4
   replace H := Option.bind_eq_some_iff.mp H
   obtain ⟨t433, A50, H⟩ := H
   try dsimp only at H
   have A5 := Aside0.mk A50
   clear A50
   obtain rfl := Option.some.inj H
   go_enter Tryz.func4, Tryz.ntmps4
   go_wp2_with (first | ((with_reducible refine gate_dst (N := 3) rfl ?_); refine zx 3 #[.string a0_0, .bool a0_1, .int .u64 a0_2, .int .u64 a0_3, .int .i64 a0_4, .int .i64 a0_5, .int .i64 a0_6, .int .i64 a0_7, .int .i64 a0_8, .bool a0_9, .int .i64 a0_10, .slice A0_11 l0_11.length c0_11] 36 ?_; intro gb432 hg w6 hbox hb; have BK432 := Aside0.mk (hbox); have GW432 := Aside0.mk ((by rw [hg]; exact (below_size (zB HB)) : w.heap.size ≤ gb432)); have GE432 := Aside0.mk ((by rw [hg]; exact (below_size (zB HB)) : w.heap.size ≤ gb432)); replace HB := Aside0.mk (below_step (zB HB) hb); clear hb hbox hg; obtain ⟨hcz7_0, hcz7_1, hcz7_2, hcz7_3, hcz7_4, hcz7_5, hcz7_6, hcz7_7, hcz7_8, hcz7_9, hcz7_10, hcz7_11⟩ := zc12 BK432; obtain ⟨hfz7_0, hfz7_1, hfz7_2, hfz7_3, hfz7_4, hfz7_5, hfz7_6, hfz7_7, hfz7_8, hfz7_9, hfz7_10, hfz7_11⟩ := zf12 BK432) | ((with_reducible refine gate_callee (f := 11) rfl ?_); refine goesL_ (some 11) rfl rfl Tryz.func11 (by kernel_rfl) rfl #[] rfl (by (try simp only [List.map_toArray, List.map_cons, List.map_nil]); first | done | rfl | (simp only [List.length_drop, List.length_take]; rfl)) ?_; (with_reducible refine (intrusionlaw18_lives.calls k  t433 _ A5.out (WOK.below hW_ (zB HB))).mono ?_); rintro e w8 ⟨rfl, hb⟩; refine ⟨_, rfl, ?_⟩; replace BK432 := Aside0.mk (blk_below (g := gb432) (o := .cells #[.string a0_0, .bool a0_1, .int .u64 a0_2, .int .u64 a0_3, .int .i64 a0_4, .int .i64 a0_5, .int .i64 a0_6, .int .i64 a0_7, .int .i64 a0_8, .bool a0_9, .int .i64 a0_10, .slice A0_11 l0_11.length c0_11] 36 (0, 0)) (zK BK432) hb); replace HB := Aside0.mk (below_step (zB HB) hb); (try clear hb)))
   go_ret
   exact ⟨by first | rfl | (simp [errW_none, errW_some] <;> rfl) | (simp [*, errW_none, errW_some] <;> rfl), by repeat (first | (with_reducible first | exact HB.out | apply below_alloc | apply pw_below_drewN | apply below_drew1 | refine below_set ?_ GE432.out) | exact HB.out)⟩
 · rw [if_neg c4] at H
   have c4b0 : decide (20 < (l0_11.length : Int)) = false := decide_eq_false c4
   have c4b1 : decide (20 < l0_11.length) = false := decide_eq_false (by omega)
   clear c4
   replace H := Option.bind_eq_some_iff.mp H
   obtain ⟨t434, A90, H⟩ := H
   try dsimp only at H
   have A9 := Aside0.mk A90
   clear A90
   replace H := Option.bind_eq_some_iff.mp H
   obtain ⟨t435, A100, H⟩ := H
   try dsimp only at H
   have A10 := Aside0.mk A100
   clear A100
   by_cases c11 : t434 = t435
   · rw [if_pos c11] at H
     have c11b0 : (t434 == t435) = true := beq_iff_eq.mpr c11
     have c11b1 : (t434 != t435) = false := bne_eq_false_iff_eq.mpr c11
     clear c11
     replace H := Option.bind_eq_some_iff.mp H
     obtain ⟨t436, A120, H⟩ := H
     try dsimp only at H
     have A12 := Aside0.mk A120
     clear A120
     obtain rfl := Option.some.inj H
     go_enter Tryz.func4, Tryz.ntmps4
     try go_wp2_with (first | ((with_reducible refine gate_dst (N := 3) rfl ?_); refine zx 3 #[.string a0_0, .bool a0_1, .int .u64 a0_2, .int .u64 a0_3, .int .i64 a0_4, .int .i64 a0_5, .int .i64 a0_6, .int .i64 a0_7, .int .i64 a0_8, .bool a0_9, .int .i64 a0_10, .slice A0_11 l0_11.length c0_11] 36 ?_; intro gb432 hg w13 hbox hb; have BK432 := Aside0.mk (hbox); have GW432 := Aside0.mk ((by rw [hg]; exact (below_size (zB HB)) : w.heap.size ≤ gb432)); have GE432 := Aside0.mk ((by rw [hg]; exact (below_size (zB HB)) : w.heap.size ≤ gb432)); replace HB := Aside0.mk (below_step (zB HB) hb); clear hb hbox hg; obtain ⟨hcz14_0, hcz14_1, hcz14_2, hcz14_3, hcz14_4, hcz14_5, hcz14_6, hcz14_7, hcz14_8, hcz14_9, hcz14_10, hcz14_11⟩ := zc12 BK432; obtain ⟨hfz14_0, hfz14_1, hfz14_2, hfz14_3, hfz14_4, hfz14_5, hfz14_6, hfz14_7, hfz14_8, hfz14_9, hfz14_10, hfz14_11⟩ := zf12 BK432))
     replace BK432 := Aside0.mk (blk_drew BK432.out)
     replace HB := Aside0.mk (below_drew1 HB.out)
     refine start_ (n := 13) (S := fun w' => w'.cell? ⟨gb432, 0, none⟩ = some (.string a0_0) ∧ w'.cell? ⟨gb432, 1, none⟩ = some (.bool a0_1) ∧ w'.cell? ⟨gb432, 2, none⟩ = some (.int .u64 a0_2) ∧ w'.cell? ⟨gb432, 3, none⟩ = some (.int .u64 a0_3) ∧ w'.cell? ⟨gb432, 4, none⟩ = some (.int .i64 a0_4) ∧ w'.cell? ⟨gb432, 5, none⟩ = some (.int .i64 a0_5) ∧ w'.cell? ⟨gb432, 6, none⟩ = some (.int .i64 a0_6) ∧ w'.cell? ⟨gb432, 7, none⟩ = some (.int .i64 a0_7) ∧ w'.cell? ⟨gb432, 8, none⟩ = some (.int .i64 a0_8) ∧ w'.cell? ⟨gb432, 9, none⟩ = some (.bool a0_9) ∧ w'.cell? ⟨gb432, 10, none⟩ = some (.int .i64 a0_10) ∧ w'.cell? ⟨gb432, 11, none⟩ = some (.slice A0_11 l0_11.length c0_11)) (ds := []) #[false, false, false, false, false, false, false, false, false, false, false, false, false] (by kernel_rfl) rfl rfl ⟨zc BK432 0, zc BK432 1, zc BK432 2, zc BK432 3, zc BK432 4, zc BK432 5, zc BK432 6, zc BK432 7, zc BK432 8, zc BK432 9, zc BK432 10, zc BK432 11⟩ (fun hHeld => ?_); refine with_tabW intrusionlaw18_AssetApps.tab3 intrusionlaw18_AssetApps.bits3 (fun HT_ HW_ => ?_)
     generalize w13.drew = w15 at BK432 HB hHeld ⊢
     refine zp 1 13 HT_ ?_; refine zp 2 14 HT_ ?_; refine zp 5 17 HT_ ?_; refine zp 6 18 HT_ ?_; refine zt 0 12 HT_ HW_ hHeld ?_; refine zt 4 16 HT_ HW_ hHeld ?_; refine zo 3 15 HT_ (fun K hK => ?_)
     refine zg Tryz.func19 #[.agg #[.string a0_0, .bool a0_1, .int .u64 a0_2, .int .u64 a0_3, .int .i64 a0_4, .int .i64 a0_5, .int .i64 a0_6, .int .i64 a0_7, .int .i64 a0_8, .bool a0_9, .int .i64 a0_10, .slice A0_11 l0_11.length c0_11], .int .i64 a1, .int .i64 a2] ?_
     with_reducible refine (asset_App.calls k a0_0 a0_1 a0_2 a0_3 a0_4 a0_5 a0_6 a0_7 a0_8 a0_9 a0_10 _ _ l0_11 a1 a2 t434 _ ?side1 ?side2 A9.out).mono ?_
     (case side1 => repeat (first | exact (Kd.C_below HR0_11.out HB.out) | (with_reducible refine Kd.C_alloc ?_ _) | (with_reducible refine Kd.C_drewN ?_ _) | (with_reducible refine Kd.C_drew ?_)))
     (case side2 => exact HC0_11.out)
     rintro e w16 ⟨rfl, hb⟩
     refine ⟨_, rfl, ?_⟩
     replace BK432 := Aside0.mk (blk_below (g := gb432) (o := .cells #[.string a0_0, .bool a0_1, .int .u64 a0_2, .int .u64 a0_3, .int .i64 a0_4, .int .i64 a0_5, .int .i64 a0_6, .int .i64 a0_7, .int .i64 a0_8, .bool a0_9, .int .i64 a0_10, .slice A0_11 l0_11.length c0_11] 36 (0, 0)) (zK BK432) hb)
     replace HB := Aside0.mk (below_step (zB HB) hb)
     (try clear hb)
     refine hK.out _ _ ⟨zc BK432 0, zc BK432 1, zc BK432 2, zc BK432 3, zc BK432 4, zc BK432 5, zc BK432 6, zc BK432 7, zc BK432 8, zc BK432 9, zc BK432 10, zc BK432 11⟩ (fun hHeld => ?_)
     clear hK K
     refine zn 15 ?_; refine zo 7 19 HT_ (fun K hK => ?_)
     refine zg Tryz.func20 #[.agg #[.string a0_0, .bool a0_1, .int .u64 a0_2, .int .u64 a0_3, .int .i64 a0_4, .int .i64 a0_5, .int .i64 a0_6, .int .i64 a0_7, .int .i64 a0_8, .bool a0_9, .int .i64 a0_10, .slice A0_11 l0_11.length c0_11], .int .i64 a1, .int .i64 a2] ?_
     with_reducible refine (intrusionref18_App.calls k a0_0 a0_1 a0_2 a0_3 a0_4 a0_5 a0_6 a0_7 a0_8 a0_9 a0_10 _ _ l0_11 a1 a2 t435 _ ?side1 ?side2 A10.out).mono ?_
     (case side1 => repeat (first | exact (Kd.C_below HR0_11.out HB.out) | (with_reducible refine Kd.C_alloc ?_ _) | (with_reducible refine Kd.C_drewN ?_ _) | (with_reducible refine Kd.C_drew ?_)))
     (case side2 => exact HC0_11.out)
     rintro e w17 ⟨rfl, hb⟩
     refine ⟨_, rfl, ?_⟩
     replace BK432 := Aside0.mk (blk_below (g := gb432) (o := .cells #[.string a0_0, .bool a0_1, .int .u64 a0_2, .int .u64 a0_3, .int .i64 a0_4, .int .i64 a0_5, .int .i64 a0_6, .int .i64 a0_7, .int .i64 a0_8, .bool a0_9, .int .i64 a0_10, .slice A0_11 l0_11.length c0_11] 36 (0, 0)) (zK BK432) hb)
     replace HB := Aside0.mk (below_step (zB HB) hb)
     (try clear hb)
     refine hK.out _ _ ⟨zc BK432 0, zc BK432 1, zc BK432 2, zc BK432 3, zc BK432 4, zc BK432 5, zc BK432 6, zc BK432 7, zc BK432 8, zc BK432 9, zc BK432 10, zc BK432 11⟩ (fun hHeld => ?_)
     clear hK K
     refine zn 19 ?_; refine zp 8 20 HT_ ?_; refine zp 9 21 HT_ ?_; refine zo 10 22 HT_ (fun K hK => ?_)
     refine zg Tryz.func11 #[] ?_
     with_reducible refine (intrusionlaw18_lives.calls k  t436 _ A12.out (WOK.below hW_ (zB HB))).mono ?_
     rintro e w18 ⟨rfl, hb⟩
     refine ⟨_, rfl, ?_⟩
     replace BK432 := Aside0.mk (blk_below (g := gb432) (o := .cells #[.string a0_0, .bool a0_1, .int .u64 a0_2, .int .u64 a0_3, .int .i64 a0_4, .int .i64 a0_5, .int .i64 a0_6, .int .i64 a0_7, .int .i64 a0_8, .bool a0_9, .int .i64 a0_10, .slice A0_11 l0_11.length c0_11] 36 (0, 0)) (zK BK432) hb)
     replace HB := Aside0.mk (below_step (zB HB) hb)
     (try clear hb)
     refine hK.out _ _ ⟨zc BK432 0, zc BK432 1, zc BK432 2, zc BK432 3, zc BK432 4, zc BK432 5, zc BK432 6, zc BK432 7, zc BK432 8, zc BK432 9, zc BK432 10, zc BK432 11⟩ (fun hHeld => ?_)
     clear hK K
     refine zn 22 ?_; refine zp 11 23 HT_ ?_; refine zp 12 6 HT_ ?_; refine zd HT_ ?_
     try go_wp2
     go_ret
     exact ⟨by first | rfl | (simp [errW_none, errW_some] <;> rfl) | (simp [*, errW_none, errW_some] <;> rfl), by repeat (first | (with_reducible first | exact HB.out | apply below_alloc | apply pw_below_drewN | apply below_drew1 | refine below_set ?_ GE432.out) | exact HB.out)⟩
   · rw [if_neg c11] at H
     have c11b0 : (t434 == t435) = false := beq_eq_false_iff_ne.mpr c11
     have c11b1 : (t434 != t435) = true := bne_iff_ne.mpr c11
     obtain rfl := Option.some.inj H
     go_enter Tryz.func4, Tryz.ntmps4
     try go_wp2_with (first | ((with_reducible refine gate_dst (N := 3) rfl ?_); refine zx 3 #[.string a0_0, .bool a0_1, .int .u64 a0_2, .int .u64 a0_3, .int .i64 a0_4, .int .i64 a0_5, .int .i64 a0_6, .int .i64 a0_7, .int .i64 a0_8, .bool a0_9, .int .i64 a0_10, .slice A0_11 l0_11.length c0_11] 36 ?_; intro gb432 hg w19 hbox hb; have BK432 := Aside0.mk (hbox); have GW432 := Aside0.mk ((by rw [hg]; exact (below_size (zB HB)) : w.heap.size ≤ gb432)); have GE432 := Aside0.mk ((by rw [hg]; exact (below_size (zB HB)) : w.heap.size ≤ gb432)); replace HB := Aside0.mk (below_step (zB HB) hb); clear hb hbox hg; obtain ⟨hcz20_0, hcz20_1, hcz20_2, hcz20_3, hcz20_4, hcz20_5, hcz20_6, hcz20_7, hcz20_8, hcz20_9, hcz20_10, hcz20_11⟩ := zc12 BK432; obtain ⟨hfz20_0, hfz20_1, hfz20_2, hfz20_3, hfz20_4, hfz20_5, hfz20_6, hfz20_7, hfz20_8, hfz20_9, hfz20_10, hfz20_11⟩ := zf12 BK432))
     replace BK432 := Aside0.mk (blk_drew BK432.out)
     replace HB := Aside0.mk (below_drew1 HB.out)
     refine start_ (n := 13) (S := fun w' => w'.cell? ⟨gb432, 0, none⟩ = some (.string a0_0) ∧ w'.cell? ⟨gb432, 1, none⟩ = some (.bool a0_1) ∧ w'.cell? ⟨gb432, 2, none⟩ = some (.int .u64 a0_2) ∧ w'.cell? ⟨gb432, 3, none⟩ = some (.int .u64 a0_3) ∧ w'.cell? ⟨gb432, 4, none⟩ = some (.int .i64 a0_4) ∧ w'.cell? ⟨gb432, 5, none⟩ = some (.int .i64 a0_5) ∧ w'.cell? ⟨gb432, 6, none⟩ = some (.int .i64 a0_6) ∧ w'.cell? ⟨gb432, 7, none⟩ = some (.int .i64 a0_7) ∧ w'.cell? ⟨gb432, 8, none⟩ = some (.int .i64 a0_8) ∧ w'.cell? ⟨gb432, 9, none⟩ = some (.bool a0_9) ∧ w'.cell? ⟨gb432, 10, none⟩ = some (.int .i64 a0_10) ∧ w'.cell? ⟨gb432, 11, none⟩ = some (.slice A0_11 l0_11.length c0_11)) (ds := []) #[false, false, false, false, false, false, false, false, false, false, false, false, false] (by kernel_rfl) rfl rfl ⟨zc BK432 0, zc BK432 1, zc BK432 2, zc BK432 3, zc BK432 4, zc BK432 5, zc BK432 6, zc BK432 7, zc BK432 8, zc BK432 9, zc BK432 10, zc BK432 11⟩ (fun hHeld => ?_); refine with_tabW intrusionlaw18_AssetApps.tab3 intrusionlaw18_AssetApps.bits3 (fun HT_ HW_ => ?_)
     generalize w19.drew = w21 at BK432 HB hHeld ⊢
     refine zp 1 13 HT_ ?_; refine zp 2 14 HT_ ?_; refine zp 5 17 HT_ ?_; refine zp 6 18 HT_ ?_; refine zt 0 12 HT_ HW_ hHeld ?_; refine zt 4 16 HT_ HW_ hHeld ?_; refine zo 3 15 HT_ (fun K hK => ?_)
     refine zg Tryz.func19 #[.agg #[.string a0_0, .bool a0_1, .int .u64 a0_2, .int .u64 a0_3, .int .i64 a0_4, .int .i64 a0_5, .int .i64 a0_6, .int .i64 a0_7, .int .i64 a0_8, .bool a0_9, .int .i64 a0_10, .slice A0_11 l0_11.length c0_11], .int .i64 a1, .int .i64 a2] ?_
     with_reducible refine (asset_App.calls k a0_0 a0_1 a0_2 a0_3 a0_4 a0_5 a0_6 a0_7 a0_8 a0_9 a0_10 _ _ l0_11 a1 a2 t434 _ ?side1 ?side2 A9.out).mono ?_
     (case side1 => repeat (first | exact (Kd.C_below HR0_11.out HB.out) | (with_reducible refine Kd.C_alloc ?_ _) | (with_reducible refine Kd.C_drewN ?_ _) | (with_reducible refine Kd.C_drew ?_)))
     (case side2 => exact HC0_11.out)
     rintro e w22 ⟨rfl, hb⟩
     refine ⟨_, rfl, ?_⟩
     replace BK432 := Aside0.mk (blk_below (g := gb432) (o := .cells #[.string a0_0, .bool a0_1, .int .u64 a0_2, .int .u64 a0_3, .int .i64 a0_4, .int .i64 a0_5, .int .i64 a0_6, .int .i64 a0_7, .int .i64 a0_8, .bool a0_9, .int .i64 a0_10, .slice A0_11 l0_11.length c0_11] 36 (0, 0)) (zK BK432) hb)
     replace HB := Aside0.mk (below_step (zB HB) hb)
     (try clear hb)
     refine hK.out _ _ ⟨zc BK432 0, zc BK432 1, zc BK432 2, zc BK432 3, zc BK432 4, zc BK432 5, zc BK432 6, zc BK432 7, zc BK432 8, zc BK432 9, zc BK432 10, zc BK432 11⟩ (fun hHeld => ?_)
     clear hK K
     refine zn 15 ?_; refine zo 7 19 HT_ (fun K hK => ?_)
     refine zg Tryz.func20 #[.agg #[.string a0_0, .bool a0_1, .int .u64 a0_2, .int .u64 a0_3, .int .i64 a0_4, .int .i64 a0_5, .int .i64 a0_6, .int .i64 a0_7, .int .i64 a0_8, .bool a0_9, .int .i64 a0_10, .slice A0_11 l0_11.length c0_11], .int .i64 a1, .int .i64 a2] ?_
     with_reducible refine (intrusionref18_App.calls k a0_0 a0_1 a0_2 a0_3 a0_4 a0_5 a0_6 a0_7 a0_8 a0_9 a0_10 _ _ l0_11 a1 a2 t435 _ ?side1 ?side2 A10.out).mono ?_
     (case side1 => repeat (first | exact (Kd.C_below HR0_11.out HB.out) | (with_reducible refine Kd.C_alloc ?_ _) | (with_reducible refine Kd.C_drewN ?_ _) | (with_reducible refine Kd.C_drew ?_)))
     (case side2 => exact HC0_11.out)
     rintro e w23 ⟨rfl, hb⟩
     refine ⟨_, rfl, ?_⟩
     replace BK432 := Aside0.mk (blk_below (g := gb432) (o := .cells #[.string a0_0, .bool a0_1, .int .u64 a0_2, .int .u64 a0_3, .int .i64 a0_4, .int .i64 a0_5, .int .i64 a0_6, .int .i64 a0_7, .int .i64 a0_8, .bool a0_9, .int .i64 a0_10, .slice A0_11 l0_11.length c0_11] 36 (0, 0)) (zK BK432) hb)
     replace HB := Aside0.mk (below_step (zB HB) hb)
     (try clear hb)
     refine hK.out _ _ ⟨zc BK432 0, zc BK432 1, zc BK432 2, zc BK432 3, zc BK432 4, zc BK432 5, zc BK432 6, zc BK432 7, zc BK432 8, zc BK432 9, zc BK432 10, zc BK432 11⟩ (fun hHeld => ?_)
     clear hK K
     refine zn 19 ?_; refine zp 8 20 HT_ ?_; refine zp 9 21 HT_ ?_; refine zu 10 22 HT_ ?_; refine zp 11 23 HT_ ?_; refine zp 12 6 HT_ ?_; refine zd HT_ ?_
     try go_wp2
     go_ret
     exact ⟨by first | rfl | (simp [errW_none, errW_some] <;> rfl) | (simp [*, errW_none, errW_some] <;> rfl), by repeat (first | (with_reducible first | exact HB.out | apply below_alloc | apply pw_below_drewN | apply below_drew1 | refine below_set ?_ GE432.out) | exact HB.out)⟩
end Go.Proofs.YtnphnhkinjppjaaGreatDoor.Q
end

section
set_option linter.unusedVariables false
namespace Go.Proofs.YtnphnhkinjppjaaGreatDoor.Read
open Go.RowKit Go.Deep Go.WideShapes Go.Proofs.YtnphnhkinjppjaaGreatDoorW.PrintWords
def Reads {α : Type} (P : Program) (W : World) (d : Kd α) (Q : α → Prop) (t : TypeId) : Prop :=
  ∀ (H : Type) (enc : TypeId × Value → H) (fuel : Nat) (cs : List Value) (x : DataW H × List MemPlace), DataW.trod enc P W 0 (fun _ => true) true fuel t cs = some x → ∃ y, d.K W y cs ∧ Q y
section
variable {P : Program} {W : World}
theorem reads_int {k : IntKind} {t : TypeId} (ht : P.underlying t = some (.int k)) : Reads P W (Kd.int k) (fun n => (Lit.int k n).wf = true) t := by
  intro H enc fuel cs x h
  obtain ⟨n, rfl, _, hw⟩ := DataW.trod_int ht h
  exact ⟨n, rfl, hw⟩
theorem reads_bool {t : TypeId} (ht : P.underlying t = some .bool) : Reads P W Kd.bool (fun _ => True) t := by
  intro H enc fuel cs x h
  obtain ⟨n, rfl, _⟩ := DataW.trod_bool ht h
  exact ⟨n, rfl, trivial⟩
theorem reads_string {t : TypeId} (ht : P.underlying t = some .string) : Reads P W Kd.string (fun s => s.size ≤ maxLen) t := by
  intro H enc fuel cs x h
  obtain ⟨n, rfl, _, hs⟩ := DataW.trod_string ht h
  exact ⟨n, rfl, hs⟩
theorem cells_at {a : Addr} {n : Nat} {cs : List Value} (h : W.cells? 0 a n = some cs) : ∀ i u, cs[i]? = some u → W.cell? (a.add i) = some u := by
  obtain ⟨_, hl, hc⟩ := World.cells?_some h
  intro i u hi
  have hlt : i < cs.length := (List.getElem?_eq_some_iff.1 hi).1
  rw [hc i (by omega), hi]
theorem reads_slice {α : Type} {d : Kd α} {Q : α → Prop} {t e : TypeId} (ht : P.underlying t = some (.slice e)) (hc : P.cellsOf e = d.sz) (he : Reads P W d Q e) :
    Reads P W (Kd.slice e d) (fun xs => xs.length ≤ maxLen ∧ ∀ x ∈ xs, Q x) t := by
  intro H enc fuel cs x h
  rcases open_slice ht h with ⟨rfl, _⟩ | ⟨a, len, cap, m, n, D, Pl, rfl, _, hl, hm, hmm, _, hx⟩
  · exact ⟨[], ⟨none, 0, rfl, Nat.le_refl _, ⟨rfl, by simp, fun h => absurd h (by simp)⟩⟩, by simp⟩
  · have hml : m = cap := by simpa using hmm
    have hy : ∀ i : Fin len, ∃ y, (∃ cs', cs'.length = d.sz ∧ d.K W y cs' ∧ ∀ j u, cs'[j]? = some u → W.cell? (a.add (i.1 * d.sz + j)) = some u) ∧ Q y := by
      intro i
      obtain ⟨cs', h1, h2⟩ := hx i.1 (by omega)
      obtain ⟨y, hk, hq⟩ := he H enc n cs' _ h2
      refine ⟨y, ⟨cs', d.K_len hk, hk, fun j u hj => ?_⟩, hq⟩
      have := cells_at h1 j u hj
      rwa [hc, Addr.add_add] at this
    have hf : ∃ f : Fin len → α, ∀ i, (∃ cs', cs'.length = d.sz ∧ d.K W (f i) cs' ∧ ∀ j u, cs'[j]? = some u → W.cell? (a.add (i.1 * d.sz + j)) = some u) ∧ Q (f i) := ⟨fun i => Classical.choose (hy i), fun i => Classical.choose_spec (hy i)⟩
    obtain ⟨f, hf⟩ := hf
    refine ⟨List.ofFn f, ⟨some a, cap, by simp, by simpa using hl, ⟨rfl, by simp [maxLen] at hm ⊢; omega, fun _ => ⟨a, rfl, fun j p hj => ?_⟩⟩⟩, by simpa using Nat.le_trans hl hm, fun y hy => ?_⟩
    · obtain ⟨hlt, rfl⟩ := List.getElem?_eq_some_iff.1 hj
      have hjl : j < len := by simpa using hlt
      rw [List.getElem_ofFn]
      exact (hf ⟨j, hjl⟩).1
    · obtain ⟨j, hj, rfl⟩ := List.getElem_of_mem hy
      rw [List.getElem_ofFn]
      exact (hf _).2
theorem pair_mk {α β : Type} {a : Kd α} {b : Kd β} {x : α} {y : β} {cs : List Value} (s : Nat) (h0 : a.K W x (cs.take s)) (h1 : b.K W y (cs.drop s)) : (Kd.pair a b).K W (x, y) cs :=
  ⟨cs.take s, cs.drop s, (List.take_append_drop s cs).symm, h0, h1⟩
theorem field_at {α : Type} {d : Kd α} {Q : α → Prop} {fs : Array Field} {H : Type} {enc : TypeId × Value → H} {n : Nat} {cs : List Value} {xs : List (DataW H × List MemPlace)} (hl : xs.length = fs.size)
    (hf : ∀ (i : Nat) (f : Field), fs[i]? = some f → DataW.trod enc P W 0 (fun _ => true) true n f.type ((cs.drop f.offset).take (P.cellsOf f.type)) = xs[i]?)
    (i : Nat) {f : Field} (hi : fs[i]? = some f) {t off sz : Nat} (ht : f.type = t) (ho : f.offset = off) (hc : P.cellsOf t = sz) (hr : Reads P W d Q t) : ∃ y, d.K W y ((cs.drop off).take sz) ∧ Q y := by
  subst ht ho hc
  have h := hf i f hi
  have hlt : i < xs.length := by rw [hl]; exact (Array.getElem?_eq_some_iff.1 hi).1
  rw [List.getElem?_eq_getElem hlt] at h
  exact hr H enc n _ _ h
end
end Go.Proofs.YtnphnhkinjppjaaGreatDoor.Read
end

section
set_option linter.unusedVariables false
namespace Go.Proofs.YtnphnhkinjppjaaGreatDoor.Q
open Go.RowKit Go.Proofs.YtnphnhkinjppjaaGreatDoorW.PrintWords Go.Proofs.YtnphnhkinjppjaaGreatDoor.Read
def q31 (x : S31) : Prop := True ∧ (Lit.int .u64 x.f1).wf = true ∧ (Lit.int .u64 x.f2).wf = true
theorem reads_k31 (W : World) : Reads Tryz.prog W k31 q31 31 := by
  intro H enc fuel cs x h
  obtain ⟨xs, n, rfl, _, hcl, hxl, hf⟩ := DataW.trod_struct Tryz.underlying31 h
  have hc : cs.length = 3 := hcl.trans (by kernel_rfl)
  obtain ⟨y0, h0, g0⟩ := field_at hxl hf 0 rfl (t := 4) (off := 0) (sz := 1) rfl rfl (by kernel_rfl) (reads_bool Tryz.underlying4)
  obtain ⟨y1, h1, g1⟩ := field_at hxl hf 1 rfl (t := 29) (off := 1) (sz := 1) rfl rfl (by kernel_rfl) (reads_int Tryz.underlying29)
  obtain ⟨y2, h2, g2⟩ := field_at hxl hf 2 rfl (t := 29) (off := 2) (sz := 1) rfl rfl (by kernel_rfl) (reads_int Tryz.underlying29)
  refine ⟨⟨y0, y1, y2⟩, ?_, ⟨g0, g1, g2⟩⟩
  rw [show (cs.drop 0).take 1 = (cs.drop 0).take 1 from rfl] at h0
  rw [show (cs.drop 1).take 1 = (cs.drop 1).take 1 from rfl] at h1
  rw [show (cs.drop 2).take 1 = (cs.drop 2) from List.take_of_length_le (by rw [List.length_drop, hc]; decide)] at h2
  skip
  simp only [show 2 = 1 + 1 from rfl, ← List.drop_drop] at h2
  have e0 : cs.drop 0 = cs := rfl
  rw [e0] at h0
  exact pair_mk (a := Kd.bool) 1 h0 (pair_mk (a := (Kd.int .u64)) 1 h1 (h2))
def q33 (x : S33) : Prop := q31 x.f0 ∧ (Lit.int .i64 x.f1).wf = true
theorem reads_k33 (W : World) : Reads Tryz.prog W k33 q33 33 := by
  intro H enc fuel cs x h
  obtain ⟨xs, n, rfl, _, hcl, hxl, hf⟩ := DataW.trod_struct Tryz.underlying33 h
  have hc : cs.length = 4 := hcl.trans (by kernel_rfl)
  obtain ⟨y0, h0, g0⟩ := field_at hxl hf 0 rfl (t := 31) (off := 0) (sz := 3) rfl rfl (by kernel_rfl) (reads_k31 W)
  obtain ⟨y1, h1, g1⟩ := field_at hxl hf 1 rfl (t := 3) (off := 3) (sz := 1) rfl rfl (by kernel_rfl) (reads_int Tryz.underlying3)
  refine ⟨⟨y0, y1⟩, ?_, ⟨g0, g1⟩⟩
  rw [show (cs.drop 0).take 3 = (cs.drop 0).take 3 from rfl] at h0
  rw [show (cs.drop 3).take 1 = (cs.drop 3) from List.take_of_length_le (by rw [List.length_drop, hc]; decide)] at h1
  skip
  have e0 : cs.drop 0 = cs := rfl
  rw [e0] at h0
  exact pair_mk (a := k31) 3 h0 (h1)
def q74 (x : S74) : Prop := (Lit.int .i64 x.f0).wf = true ∧ (Lit.int .i64 x.f1).wf = true ∧ (Lit.int .i64 x.f2).wf = true
theorem reads_k74 (W : World) : Reads Tryz.prog W k74 q74 74 := by
  intro H enc fuel cs x h
  obtain ⟨xs, n, rfl, _, hcl, hxl, hf⟩ := DataW.trod_struct Tryz.underlying74 h
  have hc : cs.length = 3 := hcl.trans (by kernel_rfl)
  obtain ⟨y0, h0, g0⟩ := field_at hxl hf 0 rfl (t := 3) (off := 0) (sz := 1) rfl rfl (by kernel_rfl) (reads_int Tryz.underlying3)
  obtain ⟨y1, h1, g1⟩ := field_at hxl hf 1 rfl (t := 3) (off := 1) (sz := 1) rfl rfl (by kernel_rfl) (reads_int Tryz.underlying3)
  obtain ⟨y2, h2, g2⟩ := field_at hxl hf 2 rfl (t := 3) (off := 2) (sz := 1) rfl rfl (by kernel_rfl) (reads_int Tryz.underlying3)
  refine ⟨⟨y0, y1, y2⟩, ?_, ⟨g0, g1, g2⟩⟩
  rw [show (cs.drop 0).take 1 = (cs.drop 0).take 1 from rfl] at h0
  rw [show (cs.drop 1).take 1 = (cs.drop 1).take 1 from rfl] at h1
  rw [show (cs.drop 2).take 1 = (cs.drop 2) from List.take_of_length_le (by rw [List.length_drop, hc]; decide)] at h2
  skip
  simp only [show 2 = 1 + 1 from rfl, ← List.drop_drop] at h2
  have e0 : cs.drop 0 = cs := rfl
  rw [e0] at h0
  exact pair_mk (a := (Kd.int .i64)) 1 h0 (pair_mk (a := (Kd.int .i64)) 1 h1 (h2))
def q36 (x : S36) : Prop := x.f0.size ≤ maxLen ∧ q33 x.f1 ∧ (Lit.int .i64 x.f2).wf = true ∧ (Lit.int .i64 x.f3).wf = true ∧ (Lit.int .i64 x.f4).wf = true ∧ (Lit.int .i64 x.f5).wf = true ∧ True ∧ (Lit.int .i64 x.f7).wf = true ∧ (x.f8.length ≤ maxLen ∧ ∀ y ∈ x.f8, q74 y)
theorem reads_k36 (W : World) : Reads Tryz.prog W k36 q36 36 := by
  intro H enc fuel cs x h
  obtain ⟨xs, n, rfl, _, hcl, hxl, hf⟩ := DataW.trod_struct Tryz.underlying36 h
  have hc : cs.length = 12 := hcl.trans (by kernel_rfl)
  obtain ⟨y0, h0, g0⟩ := field_at hxl hf 0 rfl (t := 9) (off := 0) (sz := 1) rfl rfl (by kernel_rfl) (reads_string Tryz.underlying9)
  obtain ⟨y1, h1, g1⟩ := field_at hxl hf 1 rfl (t := 33) (off := 1) (sz := 4) rfl rfl (by kernel_rfl) (reads_k33 W)
  obtain ⟨y2, h2, g2⟩ := field_at hxl hf 2 rfl (t := 3) (off := 5) (sz := 1) rfl rfl (by kernel_rfl) (reads_int Tryz.underlying3)
  obtain ⟨y3, h3, g3⟩ := field_at hxl hf 3 rfl (t := 3) (off := 6) (sz := 1) rfl rfl (by kernel_rfl) (reads_int Tryz.underlying3)
  obtain ⟨y4, h4, g4⟩ := field_at hxl hf 4 rfl (t := 3) (off := 7) (sz := 1) rfl rfl (by kernel_rfl) (reads_int Tryz.underlying3)
  obtain ⟨y5, h5, g5⟩ := field_at hxl hf 5 rfl (t := 3) (off := 8) (sz := 1) rfl rfl (by kernel_rfl) (reads_int Tryz.underlying3)
  obtain ⟨y6, h6, g6⟩ := field_at hxl hf 6 rfl (t := 4) (off := 9) (sz := 1) rfl rfl (by kernel_rfl) (reads_bool Tryz.underlying4)
  obtain ⟨y7, h7, g7⟩ := field_at hxl hf 7 rfl (t := 3) (off := 10) (sz := 1) rfl rfl (by kernel_rfl) (reads_int Tryz.underlying3)
  obtain ⟨y8, h8, g8⟩ := field_at hxl hf 8 rfl (t := 34) (off := 11) (sz := 1) rfl rfl (by kernel_rfl) (reads_slice Tryz.underlying34 (by kernel_rfl) (reads_k74 W))
  refine ⟨⟨y0, y1, y2, y3, y4, y5, y6, y7, y8⟩, ?_, ⟨g0, g1, g2, g3, g4, g5, g6, g7, g8⟩⟩
  rw [show (cs.drop 0).take 1 = (cs.drop 0).take 1 from rfl] at h0
  rw [show (cs.drop 1).take 4 = (cs.drop 1).take 4 from rfl] at h1
  rw [show (cs.drop 5).take 1 = (cs.drop 5).take 1 from rfl] at h2
  rw [show (cs.drop 6).take 1 = (cs.drop 6).take 1 from rfl] at h3
  rw [show (cs.drop 7).take 1 = (cs.drop 7).take 1 from rfl] at h4
  rw [show (cs.drop 8).take 1 = (cs.drop 8).take 1 from rfl] at h5
  rw [show (cs.drop 9).take 1 = (cs.drop 9).take 1 from rfl] at h6
  rw [show (cs.drop 10).take 1 = (cs.drop 10).take 1 from rfl] at h7
  rw [show (cs.drop 11).take 1 = (cs.drop 11) from List.take_of_length_le (by rw [List.length_drop, hc]; decide)] at h8
  skip
  simp only [show 5 = 1 + 4 from rfl, ← List.drop_drop] at h2
  simp only [show 6 = 1 + 4 + 1 from rfl, ← List.drop_drop] at h3
  simp only [show 7 = 1 + 4 + 1 + 1 from rfl, ← List.drop_drop] at h4
  simp only [show 8 = 1 + 4 + 1 + 1 + 1 from rfl, ← List.drop_drop] at h5
  simp only [show 9 = 1 + 4 + 1 + 1 + 1 + 1 from rfl, ← List.drop_drop] at h6
  simp only [show 10 = 1 + 4 + 1 + 1 + 1 + 1 + 1 from rfl, ← List.drop_drop] at h7
  simp only [show 11 = 1 + 4 + 1 + 1 + 1 + 1 + 1 + 1 from rfl, ← List.drop_drop] at h8
  have e0 : cs.drop 0 = cs := rfl
  rw [e0] at h0
  exact pair_mk (a := Kd.string) 1 h0 (pair_mk (a := k33) 4 h1 (pair_mk (a := (Kd.int .i64)) 1 h2 (pair_mk (a := (Kd.int .i64)) 1 h3 (pair_mk (a := (Kd.int .i64)) 1 h4 (pair_mk (a := (Kd.int .i64)) 1 h5 (pair_mk (a := Kd.bool) 1 h6 (pair_mk (a := (Kd.int .i64)) 1 h7 (h8))))))))
end Go.Proofs.YtnphnhkinjppjaaGreatDoor.Q
end

section
set_option linter.unusedVariables false
set_option linter.unusedSimpArgs false
namespace Go.Proofs.YtnphnhkinjppjaaGreatDoor.Pure
open Go.RowKit Go.Proofs.YtnphnhkinjppjaaGreatDoor.Q Go.Proofs.YtnphnhkinjppjaaGreatDoorW.PrintWords Go.Proofs.YtnphnhkinjppjaaGreatDoorW.PrintLast
theorem apps_succ (i : Nat) (h : i < 9223372036854775807) : wrap64 ((i : Int) + 1) = ((i + 1 : Nat) : Int) := by unfold wrap64; omega
theorem svc_get {l : List S74} {i : Nat} (h : i < l.length) : rd_T74 l (i : Int) = l[i] := by unfold rd_T74; rw [Int.toNat_natCast, List.getD_eq_getElem?_getD, List.getElem?_eq_getElem h]; rfl
def appOf (p q : Int) : List S74 → Int
  | [] => 0
  | s :: l => if s.f0 = p then (if s.f1 = q then s.f2 else appOf p q l) else appOf p q l
theorem app_ev (p q : Int) (l : List S74) (hl : l.length ≤ 20) : ∀ (d i : Nat), l.length - i = d → i ≤ l.length → Ev (fun k => asset_App.l0 k p q l (l.length : Int) (i : Int)) (appOf p q (l.drop i))
  | 0, i, hd, hi => by
    rw [List.drop_of_length_le (by omega), appOf]
    refine Ev.step (f := fun _ => some 0) (fun k => ?_) (Ev.now _)
    rw [asset_App.l0, if_neg (by omega)]
  | d + 1, i, hd, hi => by
    have h : i < l.length := by omega
    rw [List.drop_eq_getElem_cons h, appOf]
    have ih := app_ev p q l hl d (i + 1) (by omega) (by omega)
    by_cases h1 : l[i].f0 = p
    · by_cases h2 : l[i].f1 = q
      · rw [if_pos h1, if_pos h2]
        refine Ev.step (f := fun _ => some (l[i].f2)) (fun k => ?_) (Ev.now _)
        rw [asset_App.l0, if_pos (by omega), if_pos (by omega), if_pos (by omega), svc_get h, if_pos h1, if_pos h2]
      · rw [if_pos h1, if_neg h2]
        refine Ev.step (fun k => ?_) ih
        rw [asset_App.l0, if_pos (by omega), if_pos (by omega), if_pos (by omega), svc_get h, if_pos h1, if_neg h2, apps_succ i (by omega)]
    · rw [if_neg h1]
      refine Ev.step (fun k => ?_) ih
      rw [asset_App.l0, if_pos (by omega), if_pos (by omega), if_pos (by omega), svc_get h, if_neg h1, apps_succ i (by omega)]
theorem rapp_ev (p q : Int) (l : List S74) (hl : l.length ≤ 20) (a0 : ByteArray) (a1 : Bool) (a2 a3 a4 a5 a6 a7 a8 : Int) (a9 : Bool) (a10 : Int) : ∀ (d i : Nat), l.length - i = d → i ≤ l.length → Ev (fun k => intrusionref18_App.l0 k p q (i : Int) a0 a1 a2 a3 a4 a5 a6 a7 a8 a9 a10 l) (appOf p q (l.drop i))
  | 0, i, hd, hi => by
    rw [List.drop_of_length_le (by omega), appOf]
    refine Ev.step (f := fun _ => some 0) (fun k => ?_) (Ev.now _)
    rw [intrusionref18_App.l0, if_neg (by omega)]
  | d + 1, i, hd, hi => by
    have h : i < l.length := by omega
    rw [List.drop_eq_getElem_cons h, appOf]
    have ih := rapp_ev p q l hl a0 a1 a2 a3 a4 a5 a6 a7 a8 a9 a10 d (i + 1) (by omega) (by omega)
    by_cases h1 : l[i].f0 = p
    · by_cases h2 : l[i].f1 = q
      · rw [if_pos h1, if_pos h2]
        refine Ev.step (f := fun _ => some (l[i].f2)) (fun k => ?_) (Ev.now _)
        rw [intrusionref18_App.l0, if_pos (by omega), if_pos (by omega), svc_get h, if_pos h1, if_pos h2]
      · rw [if_pos h1, if_neg h2]
        refine Ev.step (fun k => ?_) ih
        rw [intrusionref18_App.l0, if_pos (by omega), if_pos (by omega), svc_get h, if_pos h1, if_neg h2, apps_succ i (by omega)]
    · rw [if_neg h1]
      refine Ev.step (fun k => ?_) ih
      rw [intrusionref18_App.l0, if_pos (by omega), if_pos (by omega), svc_get h, if_neg h1, apps_succ i (by omega)]
theorem AssetApps : ∀ (x0 : S36) (a1 : Int) (a2 : Int), q36 x0 → (Lit.int .i64 a1).wf = true → (Lit.int .i64 a2).wf = true → ∃ k, intrusionlaw18_AssetApps.f k x0.f0 x0.f1.f0.f0 x0.f1.f0.f1 x0.f1.f0.f2 x0.f1.f1 x0.f2 x0.f3 x0.f4 x0.f5 x0.f6 x0.f7 x0.f8 a1 a2 = some true := by
  intro x p q _ _ _
  by_cases hl : (x.f8.length : Int) > 20
  · refine ⟨0, ?_⟩
    unfold intrusionlaw18_AssetApps.f
    rw [if_pos hl]
    rfl
  · obtain ⟨K1, e1⟩ := app_ev p q x.f8 (by omega) _ 0 rfl (by omega)
    obtain ⟨K2, e2⟩ := rapp_ev p q x.f8 (by omega) x.f0 x.f1.f0.f0 x.f1.f0.f1 x.f1.f0.f2 x.f1.f1 x.f2 x.f3 x.f4 x.f5 x.f6 x.f7 _ 0 rfl (by omega)
    have f1 := e1 (K1 + K2) (by omega)
    have f2 := e2 (K1 + K2) (by omega)
    refine ⟨K1 + K2, ?_⟩
    unfold intrusionlaw18_AssetApps.f asset_App.f intrusionref18_App.f
    dsimp only at f1 f2
    rw [if_neg hl, show (0 : Int) = ((0 : Nat) : Int) from rfl, f1, Option.bind_some, f2, Option.bind_some, if_pos rfl]
    rfl
end Go.Proofs.YtnphnhkinjppjaaGreatDoor.Pure
end

section
set_option linter.unusedVariables false
namespace Go.Proofs.YtnphnhkinjppjaaGreatDoor.Q
open Go.RowKit
theorem returns_laid {H : Type} {enc : TypeId × Value → H} {a : Assume} {C : Checked} {os : Os} {f : FuncId} {fn : Func} {s : ChangeSpec} {conds : List PathCond} {apart fresh handsOn again : Bool} {X : World → Array Value → Prop}
    (hX : ∀ (w w' : World) (args : Array Value), w.heap = w'.heap → X w args → X w' args)
    (own : ownKnob C.prog.godebug = none) (started : os.Started) (noInit : C.prog.inits.idxOf? f = none) (hfn : C.prog.funcs[f]? = some fn)
    (witness : ∃ (w : World) (tape : Tape) (i : Input), w.os = os ∧ (w.forCall tape i).Shaped C.prog ∧ i.vars = [] ∧ Input.okWide C.prog (w.forCall tape i) .any w.heap.size f i ∧
      ((s.pre enc C.prog fn conds apart (w.forCall tape i).memory i.args ∧ X (w.forCall tape i).memory i.args) ∧ sizedMet enc C.prog fn (OpenSpec.ofChange s) apart (w.forCall tape i).memory i.args) ∧ a.holds C.prog (lone (Frame.enter C.prog f i.args .normal) [] (w.forCall tape i)))
    (contract : ∀ (W : World) (base : Nat) (args : Array Value) (ds gs : List (DataW H)) (before : List MemPlace),
      (∀ (j : Nat) t v, fn.params[j]? = some t → args[j]? = some v → Value.okWide C.prog W .any base t v) →
      DataW.Whole enc C.prog fn.params.toList s.vars apart W args.toList ds gs before →
      conds.all (PathCond.test C.prog ⟨fn.params.toList, ds, s.plain.varTypes C.prog, gs⟩) = true →
      (DataW.weightsEach C.prog (fn.params.toList ++ s.plain.varTypes C.prog) (ds ++ gs)).all (· ≤ reachBytes) = true → X W args → W.ShapedOpen C.prog →
      a.holds C.prog (lone (Frame.enter C.prog f args .normal) [] W) →
      Calls C.prog f args W fun e W' => ∃ v, e = .returned v ∧ s.post enc C.prog fn apart fresh handsOn again W args v W') :
    ReturnsInHanded a C os f .any (fun w args => (s.pre enc C.prog fn conds apart w args ∧ X w args) ∧ sizedMet enc C.prog fn (OpenSpec.ofChange s) apart w args) (s.post enc C.prog fn apart fresh handsOn again) := by
  refine returnsInHanded_of_calls own started noInit witness ?_
  intro w tape i _ hsh _ hok hpre hholds
  obtain ⟨_, _, _, fn', hfn', _, _, _, _, hval⟩ := hok
  have e : fn' = fn := Option.some.inj (hfn'.symm.trans hfn)
  subst e
  obtain ⟨⟨⟨ds, gs, before, hw, hc⟩, hx⟩, hz⟩ := hpre
  have hw' := DataW.Whole.of_heap (w' := w.forCall tape i) (by rfl) hw
  refine (contract (w.forCall tape i) w.heap.size i.args ds gs before hval hw' hc (hz.weights hw) (hX _ _ _ (by rfl) hx) hsh hholds).mono fun e W' ⟨v, he, hp⟩ => ?_
  subst he
  exact ChangeSpec.post_blind hp
theorem laidVars_at {P : Program} {W : World} : ∀ {laid : List (String × DataW Unit)} {ps : List MemPlace}, DataW.LaidVars P W laid ps → ∀ (i : Nat) (n : String) (d : DataW Unit), laid[i]? = some (n, d) →
    ∃ g t cs fuel p, P.globalNamed n = some g ∧ (P.globals[g]?).map (·.type) = some t ∧ W.var? P n = some cs ∧ DataW.trod (fun _ => ()) P W 0 (fun _ => true) false fuel t cs.toList = some (d, p)
  | [], _, _, i, _, _, h => by simp at h
  | (m, c) :: r, ps, h, i, n, d, hi => by
    obtain ⟨g, t, cs, fuel, p, q, h1, h2, h3, h4, h5, _⟩ := h
    cases i with
    | zero =>
      simp only [List.getElem?_cons_zero, Option.some.injEq, Prod.mk.injEq] at hi
      obtain ⟨rfl, rfl⟩ := hi
      exact ⟨g, t, cs, fuel, p, h1, h2, h3, h4⟩
    | succ j => exact laidVars_at h5 j n d (by simpa using hi)
theorem tabIs_at {P : Program} {W : World} {laid : List (String × DataW Unit)} {name : String} {k : IntKind} {zs : List Int} {g : Nat} {t e : TypeId} {n : Nat} (i : Nat) (hi : laid[i]? = some (name, Lib.tabData k zs))
    (hg : P.globalNamed name = some g) (hty : (P.globals[g]?).map (·.type) = some t) (ht : P.underlying t = some (.array n e)) (he : P.underlying e = some (.int k)) (hce : P.cellsOf e = 1) (hct : P.cellsOf t = n)
    (h : laidMet P laid W) : Lib.TabIs P W name k zs := by
  obtain ⟨ps, h, _⟩ := h
  obtain ⟨g', t', cs, fuel, p, hg', ht', hvar, hd⟩ := laidVars_at h i _ _ hi
  obtain rfl := Option.some.inj (hg.symm.trans hg')
  obtain rfl := Option.some.inj (hty.symm.trans ht')
  unfold Lib.TabIs
  rw [hvar, ← Lib.cells_of_tab ht he hce hct hd]
def laidL : List (String × DataW Unit) := [("math/bits.deBruijn32tab", Rows.laid_math_bits_deBruijn32tab), ("math/bits.deBruijn64tab", Rows.laid_math_bits_deBruijn64tab), ("internal/strconv.uint64pow10", Rows.laid_internal_strconv_uint64pow10), ("unicode/utf8.acceptRanges", Rows.laid_unicode_utf8_acceptRanges), ("unicode/utf8.first", Rows.laid_unicode_utf8_first)]
theorem wok_of {W : World} (h : laidMetH Tryz.prog laidL W) (hs : W.ShapedOpen Tryz.prog) : WOK W := by
  rw [MakeChecks.laidMetH_plain _ _ _ (by kernel_rfl)] at h
  refine ⟨?_, ?_, ?_⟩
  · exact cell_of_shapedOpen_int (t := 3) (zero := #[.int .i64 0]) hs (by decide +kernel) (by kernel_rfl) (by kernel_rfl) (by kernel_rfl) (by kernel_rfl) Tryz.underlying3
  · exact tabIs_at (g := 0) (n := 20) 2 (by rfl) (by kernel_rfl) (t := 164) (by kernel_rfl) (by kernel_rfl) (e := 29) Tryz.underlying29 (by kernel_rfl) (by kernel_rfl) h
  · have hb : Lib.TabIs Tryz.prog W "math/bits.deBruijn64tab" .u8 (Lib.deBruijn64tab.map Int.ofNat) := tabIs_at (g := 3) (n := 64) 1 (by rfl) (by kernel_rfl) (t := 186) (by kernel_rfl) (by kernel_rfl) (e := 5) Tryz.underlying5 (by kernel_rfl) (by kernel_rfl) h
    intro j hj
    have h2 := hb.cell (g := 3) (by kernel_rfl) j (by rw [List.length_map]; exact hj)
    rw [h2, List.getD, List.getD, List.getElem?_map, List.getElem?_eq_getElem hj]
    rfl
set_option maxRecDepth 100000 in
theorem laid_world (os : Os) (args : Array Value) : laidMetH Tryz.prog laidL ((World.laidAll Tryz.prog os laidL).forCall (fun _ _ => 0) ⟨#[], args, []⟩).memory := by
  rw [MakeChecks.laidMetH_plain _ _ _ (by kernel_rfl)]
  exact laidMet_laidAll _ (by kernel_rfl) (by kernel_rfl)
end Go.Proofs.YtnphnhkinjppjaaGreatDoor.Q
end

section
namespace Go.Proofs.YtnphnhkinjppjaaGreatDoor.assetApps
open Go.ChangeShapes Go.WideShapes Go.ChangeAt Go.RowKit Go.Proofs.YtnphnhkinjppjaaGreatDoorW.PrintWords Go.Proofs.YtnphnhkinjppjaaGreatDoor.Read Go.Proofs.YtnphnhkinjppjaaGreatDoor.Q
open Go.ChangeMaps (open_string shut_string)
set_option linter.unusedVariables false
theorem own : ownKnob Tryz.prog.godebug = none := by kernel_rfl
theorem laidOut : laidOutB Tryz.prog = true := by kernel_rfl
set_option maxRecDepth 100000 in
theorem lifted (os : Os) (started : os.Started) (H : Type) (enc : TypeId × Value → H) :
    ReturnsInHanded {} Tryz.checked os 4 .any (fun w args => (Rows.assetAppsSpec.pre enc Tryz.prog Tryz.f4 Rows.assetAppsRow.domain false w args ∧ laidMetH Tryz.prog laidL w) ∧ sizedMet enc Tryz.prog Tryz.f4 (OpenSpec.ofChange Rows.assetAppsSpec) false w args) (Rows.assetAppsSpec.post enc Tryz.prog Tryz.f4 false true false false) := by
  refine returns_laid (C := Tryz.checked) (X := (fun w _ => laidMetH Tryz.prog laidL w)) (fun _ _ _ hh h => h.of_heap hh) own started (by kernel_rfl) Tryz.func4
    (ChangeSpec.witness_shaped (enc := enc) (C := Tryz.checked) (os := os) (X := (fun w _ => laidMetH Tryz.prog laidL w)) false (World.laidAll Tryz.prog os laidL) #[.agg #[.string ByteArray.empty, .bool false, .int .u64 0, .int .u64 0, .int .i64 0, .int .i64 0, .int .i64 0, .int .i64 0, .int .i64 0, .bool false, .int .i64 0, .slice none 0 0], .int .i64 0, .int .i64 0] 8 (World.laidAll_os _ _ _)
      (World.shaped_of_ZipB (by kernel_rfl) (by kernel_rfl)) (by kernel_rfl) (by kernel_rfl) (by kernel_rfl) (laid_world os _)) ?_
  intro W base args ds gs before hval0 hW hcnd hsz0 hL hsh _
  have hWok := wok_of hL hsh
  have hsz : (DataW.weightsEach Tryz.prog (Tryz.f4.params.toList ++ Rows.assetAppsSpec.plain.varTypes Tryz.prog) (ds ++ gs)).all (· ≤ reachBytes) = true := hsz0
  have hval : ∀ (j : Nat) t v, Tryz.f4.params[j]? = some t → args[j]? = some v → Value.okWide Tryz.prog W .any base t v := hval0
  have hW' := hW
  obtain ⟨p, q, hA0, hV, rfl, hfz, hnd⟩ := hW
  have hA : DataW.TrodAll enc Tryz.prog W 0 (fun _ => true) true Tryz.f4.params.toList args.toList ds p := hA0
  rw [Tryz.params4] at hA hval hsz
  obtain ⟨v0, vs0, d0, ds0, p0, q0, hargs, rfl, rfl, h0, r0⟩ := trodAll_cons hA
  obtain ⟨v1, vs1, d1, ds1, p1, q1, rfl, rfl, rfl, h1, r1⟩ := trodAll_cons r0
  obtain ⟨v2, vs2, d2, ds2, p2, q2, rfl, rfl, rfl, h2, r2⟩ := trodAll_cons r1
  obtain ⟨rfl, rfl, rfl⟩ := trodAll_nil r2
  obtain rfl : args = #[v0, v1, v2] := by cases args; simp_all
  obtain ⟨rfl, rfl⟩ := trodVars_none hV
  obtain ⟨cs0, rfl, hz0⟩ := okWide_struct Tryz.underlying36 (hval 0 36 v0 rfl rfl)
  have k0_ := h0
  have lt0 : ∀ x ∈ p0, x.block < W.heap.size := by obtain ⟨m, hm⟩ := k0_; exact DataW.trod_lt m _ _ _ hm
  obtain ⟨fuel0, hf0⟩ := h0
  obtain ⟨x0, hK0, hq0⟩ := reads_k36 W H enc fuel0 _ _ hf0
  obtain ⟨B0_0, b0_0, hcs0, hl0_0, hb0_0⟩ := k36_open hK0
  simp only [Value.cells] at hcs0
  obtain rfl : cs0 = #[.string x0.f0, .bool x0.f1.f0.f0, .int .u64 x0.f1.f0.f1, .int .u64 x0.f1.f0.f2, .int .i64 x0.f1.f1, .int .i64 x0.f2, .int .i64 x0.f3, .int .i64 x0.f4, .int .i64 x0.f5, .bool x0.f6, .int .i64 x0.f7, .slice B0_0 x0.f8.length b0_0] := by rw [← Array.toList_inj]; exact hcs0
  obtain ⟨a1, rfl, rfl, rfl, w1⟩ := open_int Tryz.underlying3 (hval 1 3 v1 rfl rfl) h1
  obtain ⟨a2, rfl, rfl, rfl, w2⟩ := open_int Tryz.underlying3 (hval 2 3 v2 rfl rfl) h2
  clear hA0 hval0 hsz0 hsz
  obtain ⟨k, hk⟩ := Pure.AssetApps x0 a1 a2 hq0 w1 w2
  refine (intrusionlaw18_AssetApps.calls k x0.f0 x0.f1.f0.f0 x0.f1.f0.f1 x0.f1.f0.f2 x0.f1.f1 x0.f2 x0.f3 x0.f4 x0.f5 x0.f6 x0.f7 _ _ x0.f8 a1 a2 true W hb0_0 hl0_0 hk hWok).mono fun e W' he => ?_
  obtain ⟨rfl, bel⟩ := he
  exact ⟨_, rfl, _, _, _, [], _, [], hW', trodAll_mk1 (shut_bool Tryz.underlying4 _), (trodAll_cons_mk (Below.trod laidOut (by kernel_rfl) (of_decide_eq_true (by kernel_rfl)) k0_ bel lt0) (trodAll_cons_mk (shut_int Tryz.underlying3 w1) (trodAll_cons_mk (shut_int Tryz.underlying3 w2) trodAll_mk0))), rfl, bel.frame _, fun h => by cases h⟩
theorem over : Rows.assetAppsRow.holds Tryz.pinned (OpenSpec.ofChange Rows.assetAppsSpec) :=
  OpenClaim.holds_of_wide 4 Tryz.f4 rfl rfl rfl rfl rfl rfl rfl ⟨rfl, rfl, rfl, rfl, rfl⟩ rfl rfl rfl rfl rfl (by kernel_rfl) Tryz.func4 (by kernel_rfl)
    (of_decide_eq_true (by kernel_rfl)) (by unfold Func.isWrapper; first | (rw [if_pos (by decide +kernel)]; kernel_rfl) | (rw [if_neg (by decide +kernel)]; exact ⟨rfl, rfl⟩))
    (fun os started H enc _ => lifted os started H enc)
theorem card : Rows.AssetAppsCardSaid :=
  Claim7.holds_tied_plain_at .later [] [.data, .data, .data, .data, .pinned] true (true, "e2fb7f09b75ce55e686a17d0d7ee68673f5cc2846f6649169a4a74c75a4abc06") false over (fun _ h => by cases h) (by kernel_rfl) (fun _ h => by cases h) assetApps_row_tie rfl ⟨rfl, rfl⟩ (by kernel_rfl) rfl
    (fun f fn hf hfn => by
      obtain rfl : f = 4 := Option.some.inj ((show Tryz.prog.funcNamed "intrusion/intrusionlaw18.AssetApps" = some 4 by kernel_rfl).symm.trans hf) |>.symm
      obtain rfl : fn = Tryz.f4 := (Option.some.inj (Tryz.func4.symm.trans hfn)).symm
      exact ⟨by kernel_rfl, fun j t ht => by
        rw [Tryz.params4] at ht
        have hm : t ∈ [36, 3, 3] := by simpa using Array.mem_of_getElem? ht
        have hall : ([36, 3, 3].all fun u => !Tryz.prog.wantsStandIn u) = true := by kernel_rfl
        exact (show Tryz.prog.wantsStandIn t = false by simpa using List.all_eq_true.1 hall t hm)⟩)
    (by kernel_rfl)
#print axioms card
end Go.Proofs.YtnphnhkinjppjaaGreatDoor.assetApps
namespace Go.Proofs.YtnphnhkinjppjaaGreatDoor
theorem assetApps_holds : Rows.AssetAppsCardSaid := assetApps.card
end Go.Proofs.YtnphnhkinjppjaaGreatDoor
end
