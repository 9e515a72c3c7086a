/- The law PortsetMembers answers true for every input and leaves its arguments as they were. No condition. (Part 4 of 4: the kit's printed words and walks, hand-made contracts and plain laws, joined in build order, without what the theorem does not reach.) -/
import Derived.Test.YtbimdjciacnioaaDoorRows
import Derived.ProofKit
import Derived.OpenShut
import Derived.LaidMore
import Derived.Lay
import Derived.SevenTiedAt
import Derived.Stop.Joined
import Derived.Lib.LaidTab
import Derived.Shelf.Vars
import Derived.HandedShaped
import Derived.WalkKit
import Derived.ShutString
import Derived.ChangeOld
import Derived.Below
import Derived.SizedLaws
import Derived.Carry
import Derived.Test.YtbimdjciacnioaaDoorTie
import Derived.Test.YtbimdjciacnioaaDoorCards
import Derived.Test.YtbimdjciacnioaaDoorGPortsetMembers3
section
set_option linter.unusedVariables false
set_option linter.unusedSimpArgs false
namespace Go.Proofs.YtbimdjciacnioaaDoor.Q
open Go.RowKit Go.Proofs.YtbimdjciacnioaaDoorW.PrintWords Go.Proofs.YtbimdjciacnioaaDoorW.PrintLast Go.Proofs.YtbimdjciacnioaaDoorW.PrintMore Go.Proofs.YtbimdjciacnioaaDoor.Canon
def MinusP (a b : List Sn) (n : Int) : Prop := SM a n ∧ ¬ SM b n ∧ 0 ≤ n ∧ n ≤ 4294967296
theorem minus_spec (a b : List Sn) (ha : a.length < 2000000000000) (hb : b.length < 2000000000000) : ∃ r, Ev (fun k => interval_Minus.f k a b) r ∧ Can (MinusP a b) r ∧ r.length ≤ a.length + b.length + 1 := by
  obtain ⟨c, c1, c2, c3⟩ := compl_spec b 0 4294967296 (by omega)
  obtain ⟨r, r1, r2, r3⟩ := inter_spec a c (by omega) (by omega)
  refine ⟨r, Ev.congr (fun k => rfl) (Ev.bind c1 (Ev.bind r1 (Ev.now _))), r2.congr (fun n => ?_), by omega⟩
  unfold InterP MinusP
  rw [c2.2.2 n]
  unfold ComplP
  constructor
  · rintro ⟨h1, ⟨_, _, _, _, h2⟩, h3, h4⟩; exact ⟨h1, h2, h3, h4⟩
  · rintro ⟨h1, h2, h3, h4⟩; exact ⟨h1, ⟨h3, h3, h4, h4, h2⟩, h3, h4⟩
open Classical in
noncomputable def inB (l : List Sn) (n : Int) : Bool := decide (SM l n ∧ 0 ≤ n ∧ n ≤ 4294967296)
theorem inB_iff (l : List Sn) (n : Int) : inB l n = true ↔ SM l n ∧ 0 ≤ n ∧ n ≤ 4294967296 := by unfold inB; simp
theorem any_in (l : List Sn) (n : Int) : l.any (inSpan n) = true ↔ SM l n := by
  rw [sm_iff, List.any_eq_true]
  constructor
  · rintro ⟨x, hx, h⟩
    unfold inSpan at h
    simp at h
    exact ⟨x, hx, h.1, h.2⟩
  · rintro ⟨x, hx, h1, h2⟩
    exact ⟨x, hx, by simp [inSpan, h1, h2]⟩
theorem contains_eq (l : List Sn) (n : Int) : interval_Contains.f l n = some (inB l n) := by
  unfold interval_Contains.f inB
  congr 1
  rw [Bool.eq_iff_iff]
  simp only [Bool.and_eq_true, decide_eq_true_eq, any_in]
  constructor
  · rintro ⟨h1, h2, h3⟩; exact ⟨h3, h1, h2⟩
  · rintro ⟨h3, h1, h2⟩; exact ⟨h1, h2, h3⟩
open Classical in
noncomputable def card (P : Int → Prop) (m : Nat) : Nat := (List.range m).countP (fun i : Nat => decide (P (i : Int)))
open Classical in
theorem card_succ (P : Int → Prop) (m : Nat) : card P (m + 1) = card P m + if P (m : Int) then 1 else 0 := by
  unfold card
  rw [List.range_succ, List.countP_append, List.countP_cons, List.countP_nil]
  by_cases h : P (m : Int) <;> simp [h]
theorem card_congr {P Q : Int → Prop} (h : ∀ n, P n ↔ Q n) (m : Nat) : card P m = card Q m := by
  have : P = Q := funext fun n => propext (h n)
  rw [this]
open Classical in
theorem card_add (P Q : Int → Prop) : ∀ m, card (fun n => P n ∨ Q n) m + card (fun n => P n ∧ Q n) m = card P m + card Q m
  | 0 => rfl
  | m + 1 => by
    have ih := card_add P Q m
    simp only [card_succ]
    by_cases h1 : P (m : Int) <;> by_cases h2 : Q (m : Int) <;> simp [h1, h2] <;> omega
open Classical in
theorem card_false : ∀ m, card (fun _ => False) m = 0
  | 0 => rfl
  | m + 1 => by rw [card_succ, card_false m]; simp
open Classical in
theorem card_span (a b : Int) (h0 : 0 ≤ a) (h : a ≤ b + 1) : ∀ m : Nat, (card (fun n => a ≤ n ∧ n ≤ b) m : Int) = if (m : Int) ≤ a then 0 else if (m : Int) ≤ b + 1 then m - a else b - a + 1
  | 0 => by rw [if_pos (by omega)]; rfl
  | m + 1 => by
    have ih := card_span a b h0 h m
    rw [card_succ]
    by_cases c : a ≤ (m : Int) ∧ (m : Int) ≤ b
    · rw [if_pos c]
      split at ih <;> split <;> (try split) <;> (try split at ih) <;> omega
    · rw [if_neg c]
      split at ih <;> split <;> (try split) <;> (try split at ih) <;> omega
theorem card_total : ∀ (l : List Sn) (lo : Int), 0 ≤ lo → CanFrom lo (l.map sp) → (∀ x ∈ l, x.f1 ≤ 4294967296) → ∀ m : Nat, 4294967297 ≤ m → (card (SM l) m : Int) = total l
  | [], lo, _, _, _, m, _ => by rw [card_congr (Q := fun _ => False) (fun n => sm_nil n), card_false]; rfl
  | x :: t, lo, h0, c, h, m, hm => by
    obtain ⟨c1, c2, c3⟩ := c
    simp only [sp] at c1 c2 c3
    have hx := h x (List.mem_cons_self ..)
    have ih := card_total t (x.f1 + 2) (by omega) c3 (fun z hz => h z (List.mem_cons_of_mem _ hz)) m hm
    have ha := card_add (fun n => x.f0 ≤ n ∧ n ≤ x.f1) (SM t) m
    rw [card_congr (P := fun n => (x.f0 ≤ n ∧ n ≤ x.f1) ∧ SM t n) (Q := fun _ => False) (fun n => ⟨fun hh => by have := sm_ge c3 hh.2; omega, False.elim⟩), card_false] at ha
    rw [card_congr (fun n => sm_cons x t n)]
    have hs := card_span x.f0 x.f1 (by omega) (by omega) m
    rw [if_neg (by omega)] at hs
    have hs2 : (card (fun n => x.f0 ≤ n ∧ n ≤ x.f1) m : Int) = x.f1 - x.f0 + 1 := by
      split at hs <;> omega
    simp only [total]
    omega
theorem Can.card {P : Int → Prop} {r : List Sn} (h : Can P r) : (Q.card P 4294967297 : Int) = Q.total r := by
  rw [← card_total r 0 (Int.le_refl _) h.1 h.2.1 4294967297 (Nat.le_refl _)]
  rw [card_congr h.2.2]
end Go.Proofs.YtbimdjciacnioaaDoor.Q
end

section
namespace Go.Proofs.YtbimdjciacnioaaDoor.Q
open Go.RowKit Go.Proofs.YtbimdjciacnioaaDoorW.PrintWords Go.Proofs.YtbimdjciacnioaaDoorW.PrintLast Go.Proofs.YtbimdjciacnioaaDoorW.PrintMore
attribute [local go_sem] max2_int min2_int max_two min_two max_three min_three max_four min_four
set_option linter.unusedVariables false
set_option linter.unusedSimpArgs false
def intrusionref08_All.f  : Option ((List (S33))) := some (([(⟨0, 65535⟩ : S33)] : List (S33)))
end Go.Proofs.YtbimdjciacnioaaDoor.Q
end

section
namespace Go.Proofs.YtbimdjciacnioaaDoor.Q
open Go.RowKit Go.Proofs.YtbimdjciacnioaaDoorW.PrintWords Go.Proofs.YtbimdjciacnioaaDoorW.PrintLast Go.Proofs.YtbimdjciacnioaaDoorW.PrintMore
attribute [local go_sem] max2_int min2_int max_two min_two max_three min_three max_four min_four
set_option linter.unusedVariables false
set_option linter.unusedSimpArgs false
def intrusionref08_ports.f (k : Nat) (l0 : List (S33)) : Option ((List (S33))) := (intrusionref08_All.f).bind fun t341 => ((intrusionref05_Intersect.f k l0 t341).bind fun t344 => (some t344))
theorem intrusionref08_ports.mono : ∀ a0 k, LeO (intrusionref08_ports.f k a0) (intrusionref08_ports.f (k + 1) a0) := by
  intro a0 k
  unfold intrusionref08_ports.f
  repeat' first
      | (with_reducible exact intrusionref05_Intersect.mono _ _ _)
      | (with_reducible exact LeO.refl _)
      | (with_reducible exact LeO.none _)
      | (with_reducible refine LeO.ite ?_ ?_)
      | (with_reducible refine LeO.bind ?_ (fun _ => ?_))
      | exact intrusionref05_Intersect.mono _ _ _
      | exact LeO.none _
      | refine LeO.ite ?_ ?_
      | refine LeO.bind ?_ (fun _ => ?_)
end Go.Proofs.YtbimdjciacnioaaDoor.Q
end

section
namespace Go.Proofs.YtbimdjciacnioaaDoor.Q
open Go.RowKit Go.Proofs.YtbimdjciacnioaaDoorW.PrintWords Go.Proofs.YtbimdjciacnioaaDoorW.PrintLast Go.Proofs.YtbimdjciacnioaaDoorW.PrintMore
attribute [local go_sem] max2_int min2_int max_two min_two max_three min_three max_four min_four
set_option linter.unusedVariables false
set_option linter.unusedSimpArgs false
def intrusionref08_Eval.f (k : Nat) (l0 : List (S33)) (l1 : List (S33)) : Option ((List (S33))) := if (l0.length : Int) = 0 then ((intrusionref08_All.f).bind fun t369 => ((intrusionref08_ports.f k t369).bind fun t372 => ((intrusionref05_Minus.f k t372 l1).bind fun t375 => (some t375)))) else ((intrusionref08_ports.f k l0).bind fun t378 => ((intrusionref05_Minus.f k t378 l1).bind fun t381 => (some t381)))
theorem intrusionref08_Eval.mono : ∀ a0 a1 k, LeO (intrusionref08_Eval.f k a0 a1) (intrusionref08_Eval.f (k + 1) a0 a1) := by
  intro a0 a1 k
  unfold intrusionref08_Eval.f
  repeat' first
      | (with_reducible exact intrusionref05_Minus.mono _ _ _)
      | (with_reducible exact intrusionref08_ports.mono _ _)
      | (with_reducible exact LeO.refl _)
      | (with_reducible exact LeO.none _)
      | (with_reducible refine LeO.ite ?_ ?_)
      | (with_reducible refine LeO.bind ?_ (fun _ => ?_))
      | exact intrusionref05_Minus.mono _ _ _
      | exact intrusionref08_ports.mono _ _
      | exact LeO.none _
      | refine LeO.ite ?_ ?_
      | refine LeO.bind ?_ (fun _ => ?_)
end Go.Proofs.YtbimdjciacnioaaDoor.Q
end

section
namespace Go.Proofs.YtbimdjciacnioaaDoor.Q
open Go.RowKit Go.Proofs.YtbimdjciacnioaaDoorW.PrintWords Go.Proofs.YtbimdjciacnioaaDoorW.PrintLast Go.Proofs.YtbimdjciacnioaaDoorW.PrintMore
attribute [local go_sem] max2_int min2_int max_two min_two max_three min_three max_four min_four
set_option linter.unusedVariables false
set_option linter.unusedSimpArgs false
mutual
def intrusionref08_Parse.l0 : Nat → List ByteArray → List (S33) → List (S33) → Int → Option ((List (S33)) × Int)
  | 0, _, _, _, _ => none
  | k + 1, x4, x5, x6, x7 => if x7 < (x4.length : Int) then (if 0 ≤ x7 then (if (rdOf ByteArray.empty x4 x7).toList = ([] : List UInt8) then (intrusionref08_Parse.j1 k x4 x5 x6 x7 (rdOf ByteArray.empty x4 x7) false) else (if 0 < ((rdOf ByteArray.empty x4 x7).size : Int) then (intrusionref08_Parse.j1 k x4 x5 x6 x7 (rdOf ByteArray.empty x4 x7) ((bt (rdOf ByteArray.empty x4 x7) 0) == 33)) else (none))) else (none)) else ((intrusionref08_Eval.f k x5 x6).bind fun t418 => (some (t418, 0)))
def intrusionref08_Parse.j1 : Nat → List ByteArray → List (S33) → List (S33) → Int → ByteArray → Bool → Option ((List (S33)) × Int)
  | 0, _, _, _, _, _, _ => none
  | k + 1, x4, x5, x6, x7, x8, x9 => if x9 = true then (if 1 ≤ (x8.size : Int) then (intrusionref08_Parse.j2 k x4 x5 x6 x7 (x8.extract 1 x8.size) x9) else (none)) else (intrusionref08_Parse.j2 k x4 x5 x6 x7 x8 x9)
def intrusionref08_Parse.j2 : Nat → List ByteArray → List (S33) → List (S33) → Int → ByteArray → Bool → Option ((List (S33)) × Int)
  | 0, _, _, _, _, _, _ => none
  | k + 1, x4, x5, x6, x7, x8, x9 => (intrusionref08_item.f k x8).bind fun bt422 => (if bt422.2.2 = 0 then (if x9 = true then (if x6.length < 8796093022208 then (intrusionref08_Parse.l0 k x4 x5 (x6 ++ [(⟨bt422.1, bt422.2.1⟩ : S33)]) (wrap64 (x7 + 1))) else (none)) else (if x5.length < 8796093022208 then (intrusionref08_Parse.l0 k x4 (x5 ++ [(⟨bt422.1, bt422.2.1⟩ : S33)]) x6 (wrap64 (x7 + 1))) else (none))) else (some (([] : List (S33)), bt422.2.2)))
end
def intrusionref08_Parse.f (k : Nat) (a0 : ByteArray) : Option ((List (S33)) × Int) := if (a0.size : Int) > 1024 then (some (([] : List (S33)), 3)) else (if a0.toList = ([97, 110, 121] : List UInt8) then ((intrusionref08_All.f).bind fun t406 => (some (t406, 0))) else ((intrusionref08_split.f k a0 44).bind fun t409 => (if (t409.length : Int) > 64 then (some (([] : List (S33)), 3)) else (intrusionref08_Parse.l0 k t409 (([] : List (S33))) (([] : List (S33))) 0))))
theorem intrusionref08_Parse.mono_l : ∀ k, (∀ y0 y1 y2 y3, LeO (intrusionref08_Parse.l0 k y0 y1 y2 y3) (intrusionref08_Parse.l0 (k + 1) y0 y1 y2 y3)) ∧ (∀ y0 y1 y2 y3 y4 y5, LeO (intrusionref08_Parse.j1 k y0 y1 y2 y3 y4 y5) (intrusionref08_Parse.j1 (k + 1) y0 y1 y2 y3 y4 y5)) ∧ (∀ y0 y1 y2 y3 y4 y5, LeO (intrusionref08_Parse.j2 k y0 y1 y2 y3 y4 y5) (intrusionref08_Parse.j2 (k + 1) y0 y1 y2 y3 y4 y5))
  | 0 => ⟨fun _ _ _ _ r h => by simp [intrusionref08_Parse.l0] at h, fun _ _ _ _ _ _ r h => by simp [intrusionref08_Parse.j1] at h, fun _ _ _ _ _ _ r h => by simp [intrusionref08_Parse.j2] at h⟩
  | k + 1 => by
    obtain ⟨ih0, ih1, ih2⟩ := intrusionref08_Parse.mono_l k
    refine ⟨?_, ?_, ?_⟩
    · intro y0 y1 y2 y3
      unfold intrusionref08_Parse.l0
      repeat' first
      | (with_reducible exact ih0 _ _ _ _)
      | (with_reducible exact ih1 _ _ _ _ _ _)
      | (with_reducible exact ih2 _ _ _ _ _ _)
      | (with_reducible exact intrusionref08_Eval.mono _ _ _)
      | (with_reducible exact intrusionref08_item.mono _ _)
      | (with_reducible exact intrusionref08_split.mono _ _ _)
      | (with_reducible exact LeO.refl _)
      | (with_reducible exact LeO.none _)
      | (with_reducible refine LeO.ite ?_ ?_)
      | (with_reducible refine LeO.bind ?_ (fun _ => ?_))
      | exact ih0 _ _ _ _
      | exact ih1 _ _ _ _ _ _
      | exact ih2 _ _ _ _ _ _
      | exact intrusionref08_Eval.mono _ _ _
      | exact intrusionref08_item.mono _ _
      | exact intrusionref08_split.mono _ _ _
      | exact LeO.none _
      | refine LeO.ite ?_ ?_
      | refine LeO.bind ?_ (fun _ => ?_)
    · intro y0 y1 y2 y3 y4 y5
      unfold intrusionref08_Parse.j1
      repeat' first
      | (with_reducible exact ih0 _ _ _ _)
      | (with_reducible exact ih1 _ _ _ _ _ _)
      | (with_reducible exact ih2 _ _ _ _ _ _)
      | (with_reducible exact intrusionref08_Eval.mono _ _ _)
      | (with_reducible exact intrusionref08_item.mono _ _)
      | (with_reducible exact intrusionref08_split.mono _ _ _)
      | (with_reducible exact LeO.refl _)
      | (with_reducible exact LeO.none _)
      | (with_reducible refine LeO.ite ?_ ?_)
      | (with_reducible refine LeO.bind ?_ (fun _ => ?_))
      | exact ih0 _ _ _ _
      | exact ih1 _ _ _ _ _ _
      | exact ih2 _ _ _ _ _ _
      | exact intrusionref08_Eval.mono _ _ _
      | exact intrusionref08_item.mono _ _
      | exact intrusionref08_split.mono _ _ _
      | exact LeO.none _
      | refine LeO.ite ?_ ?_
      | refine LeO.bind ?_ (fun _ => ?_)
    · intro y0 y1 y2 y3 y4 y5
      unfold intrusionref08_Parse.j2
      repeat' first
      | (with_reducible exact ih0 _ _ _ _)
      | (with_reducible exact ih1 _ _ _ _ _ _)
      | (with_reducible exact ih2 _ _ _ _ _ _)
      | (with_reducible exact intrusionref08_Eval.mono _ _ _)
      | (with_reducible exact intrusionref08_item.mono _ _)
      | (with_reducible exact intrusionref08_split.mono _ _ _)
      | (with_reducible exact LeO.refl _)
      | (with_reducible exact LeO.none _)
      | (with_reducible refine LeO.ite ?_ ?_)
      | (with_reducible refine LeO.bind ?_ (fun _ => ?_))
      | exact ih0 _ _ _ _
      | exact ih1 _ _ _ _ _ _
      | exact ih2 _ _ _ _ _ _
      | exact intrusionref08_Eval.mono _ _ _
      | exact intrusionref08_item.mono _ _
      | exact intrusionref08_split.mono _ _ _
      | exact LeO.none _
      | refine LeO.ite ?_ ?_
      | refine LeO.bind ?_ (fun _ => ?_)
theorem intrusionref08_Parse.mono : ∀ a0 k, LeO (intrusionref08_Parse.f k a0) (intrusionref08_Parse.f (k + 1) a0) := by
  intro a0 k
  obtain ⟨ih0, ih1, ih2⟩ := intrusionref08_Parse.mono_l k
  unfold intrusionref08_Parse.f
  repeat' first
      | (with_reducible exact ih0 _ _ _ _)
      | (with_reducible exact ih1 _ _ _ _ _ _)
      | (with_reducible exact ih2 _ _ _ _ _ _)
      | (with_reducible exact intrusionref08_Eval.mono _ _ _)
      | (with_reducible exact intrusionref08_item.mono _ _)
      | (with_reducible exact intrusionref08_split.mono _ _ _)
      | (with_reducible exact LeO.refl _)
      | (with_reducible exact LeO.none _)
      | (with_reducible refine LeO.ite ?_ ?_)
      | (with_reducible refine LeO.bind ?_ (fun _ => ?_))
      | exact ih0 _ _ _ _
      | exact ih1 _ _ _ _ _ _
      | exact ih2 _ _ _ _ _ _
      | exact intrusionref08_Eval.mono _ _ _
      | exact intrusionref08_item.mono _ _
      | exact intrusionref08_split.mono _ _ _
      | exact LeO.none _
      | refine LeO.ite ?_ ?_
      | refine LeO.bind ?_ (fun _ => ?_)
end Go.Proofs.YtbimdjciacnioaaDoor.Q
end

section
set_option linter.unusedVariables false
set_option linter.unusedSimpArgs false
namespace Go.Proofs.YtbimdjciacnioaaDoor.Q
open Go.RowKit Go.Proofs.YtbimdjciacnioaaDoorW.PrintWords Go.Proofs.YtbimdjciacnioaaDoorW.PrintLast Go.Proofs.YtbimdjciacnioaaDoorW.PrintMore Go.Proofs.YtbimdjciacnioaaDoor.Canon
def evP (a b : List Sn) (n : Int) : Prop := (a = [] ∨ SM a n) ∧ ¬ SM b n ∧ 0 ≤ n ∧ n ≤ 65535
def allS : List Sn := [(⟨0, 65535⟩ : Sn)]
theorem sm_all (n : Int) : SM allS n ↔ 0 ≤ n ∧ n ≤ 65535 := by
  unfold allS
  rw [sm_cons, sm_nil, or_false]
theorem can_all : Can (evP [] []) allS := ⟨by simp [CanFrom, sp, allS], by simp [allS], fun n => by
  rw [sm_all]
  unfold evP
  rw [sm_nil]
  simp⟩
theorem all_len : allS.length = 1 := rfl
theorem eval_spec (a b : List Sn) (ha : a.length < 1000000) (hb : b.length < 1000000) : ∃ r, Ev (fun k => portset_Eval.f k a b) r ∧ Can (evP a b) r := by
  by_cases h : a = []
  · subst h
    obtain ⟨r, r1, r2, r3⟩ := minus_spec allS b (by rw [all_len]; omega) (by omega)
    refine ⟨r, ?_, r2.congr (fun n => ?_)⟩
    · unfold portset_Eval.f portset_All.f
      simp only [Option.bind_some, List.length_nil]
      refine Ev.congr (fun k => if_neg (by decide)) (Ev.bind r1 (Ev.now _))
    · unfold MinusP evP
      rw [sm_all]
      constructor
      · rintro ⟨⟨h1, h2⟩, h3, _, _⟩; exact ⟨.inl rfl, h3, h1, h2⟩
      · rintro ⟨_, h3, h1, h2⟩; exact ⟨⟨h1, h2⟩, h3, h1, by omega⟩
  · obtain ⟨c, c1, c2, c3⟩ := inter_spec allS a (by rw [all_len]; omega) (by omega)
    rw [all_len] at c3
    obtain ⟨r, r1, r2, r3⟩ := minus_spec c b (by omega) (by omega)
    refine ⟨r, ?_, r2.congr (fun n => ?_)⟩
    · unfold portset_Eval.f portset_All.f
      simp only [Option.bind_some]
      exact Ev.congr (fun k => if_pos (by have := List.length_pos_iff.2 h; omega)) (Ev.bind c1 (Ev.bind r1 (Ev.now _)))
    · unfold MinusP evP
      rw [c2.2.2 n]
      unfold InterP
      rw [sm_all]
      constructor
      · rintro ⟨⟨⟨h1, h2⟩, h4, _, _⟩, h3, _, _⟩; exact ⟨.inr h4, h3, h1, h2⟩
      · rintro ⟨h4, h3, h1, h2⟩
        rcases h4 with h4 | h4
        · exact absurd h4 h
        · exact ⟨⟨⟨h1, h2⟩, h4, h1, by omega⟩, h3, h1, by omega⟩
def portP (a : List Sn) (n : Int) : Prop := SM a n ∧ 0 ≤ n ∧ n ≤ 65535
theorem ports_spec (a : List Sn) (ha : a.length < 400) : ∃ r, Ev (fun k => intrusionref08_ports.f k a) r ∧ Can (portP a) r ∧ r.length ≤ a.length + 1 ∧ Ev (fun k => interval_Intersect.f k allS a) r ∧ Ev (fun k => interval_Intersect.f k a allS) r := by
  obtain ⟨r, r1, r2⟩ := rinter_spec a allS (by omega) (by rw [all_len]; omega)
  obtain ⟨q, q1, q2, q3⟩ := inter_spec a allS (by omega) (by rw [all_len]; omega)
  obtain ⟨q', q1', q2', q3'⟩ := inter_spec allS a (by rw [all_len]; omega) (by omega)
  have e := r2.uniq q2
  subst e
  have e := (q2'.congr (Q := InterP a allS) (fun n => by unfold InterP; constructor <;> (rintro ⟨h1, h2, h3⟩; exact ⟨h2, h1, h3⟩))).uniq q2
  subst e
  refine ⟨q', ?_, q2.congr (fun n => ?_), by rw [all_len] at q3; exact q3, q1', q1⟩
  · unfold intrusionref08_ports.f intrusionref08_All.f
    simp only [Option.bind_some]
    exact Ev.bind r1 (Ev.now _)
  · unfold InterP portP
    rw [sm_all]
    constructor
    · rintro ⟨h1, ⟨h2, h3⟩, _⟩; exact ⟨h1, h2, h3⟩
    · rintro ⟨h1, h2, h3⟩; exact ⟨h1, ⟨h2, h3⟩, h2, by omega⟩
def bare (t : List UInt8) : List UInt8 := if t.head? = some 33 then t.drop 1 else t
def excl (t : List UInt8) : Bool := t.head? == some 33
def prs : List (List UInt8) → List Sn → List Sn → (List Sn × List Sn) ⊕ Int
  | [], a, b => .inl (a, b)
  | t :: ts, a, b => if (itemV (bare t)).2.2 = 0 then (if excl t = true then prs ts a (b ++ [(⟨(itemV (bare t)).1, (itemV (bare t)).2.1⟩ : Sn)]) else prs ts (a ++ [(⟨(itemV (bare t)).1, (itemV (bare t)).2.1⟩ : Sn)]) b) else .inr (itemV (bare t)).2.2
def Res (g : Nat → Option (List Sn × Int)) : (List Sn × List Sn) ⊕ Int → Prop
  | .inl (a, b) => ∃ r, Ev g (r, 0) ∧ Can (evP a b) r
  | .inr e => Ev g ([], e)
theorem Res.step {g f : Nat → Option (List Sn × Int)} {s : (List Sn × List Sn) ⊕ Int} (h : ∀ k, g (k + 1) = f k) (hf : Res f s) : Res g s := by
  cases s with
  | inl p => obtain ⟨r, h1, h2⟩ := hf; exact ⟨r, Ev.step h h1, h2⟩
  | inr e => exact Ev.step h hf
theorem Res.congr {g f : Nat → Option (List Sn × Int)} {s : (List Sn × List Sn) ⊕ Int} (h : ∀ k, g k = f k) (hf : Res f s) : Res g s := by
  cases s with
  | inl p => obtain ⟨r, h1, h2⟩ := hf; exact ⟨r, Ev.congr h h1, h2⟩
  | inr e => exact Ev.congr h hf
theorem Res.bind {α : Type} {h : Nat → Option α} {x : α} {f : Nat → α → Option (List Sn × Int)} {s : (List Sn × List Sn) ⊕ Int} (h1 : Ev h x) (hf : Res (fun n => f n x) s) : Res (fun n => (h n).bind (f n)) s := by
  cases s with
  | inl p => obtain ⟨r, h2, h3⟩ := hf; exact ⟨r, Ev.bind h1 h2, h3⟩
  | inr e => exact Ev.bind h1 hf
theorem pre_eq (t : List UInt8) : Lib.hasPrefix t [33] = excl t := by
  unfold Lib.hasPrefix excl
  cases t with
  | nil => rfl
  | cons x t =>
    simp [List.isPrefixOf]
    rw [Bool.eq_iff_iff, beq_iff_eq, beq_iff_eq]
    constructor <;> exact Eq.symm
theorem trim_eq (t : List UInt8) : Lib.trimPrefix t [33] = bare t := by
  unfold Lib.trimPrefix bare
  rw [pre_eq]
  unfold excl
  by_cases h : t.head? = some 33
  · rw [if_pos h, if_pos (beq_iff_eq.2 h)]; rfl
  · rw [if_neg h, if_neg (fun e => h (beq_iff_eq.1 e))]
theorem bare_len (t : List UInt8) : (bare t).length ≤ t.length := by
  unfold bare
  split
  · rw [List.length_drop]; omega
  · exact Nat.le_refl _
theorem cutp_eq (t : List UInt8) : strings_CutPrefix.f (mkB t) (⟨#[33]⟩ : ByteArray) = some (mkB (bare t), excl t) := by
  unfold strings_CutPrefix.f
  rw [mkB_list]
  show some (mkB (Lib.trimPrefix t [33]), Lib.hasPrefix t [33]) = _
  rw [trim_eq, pre_eq]
theorem parse0 (L : List (List UInt8)) (hL : L.length ≤ 1000) (hz : ∀ x ∈ L, x.length ≤ 100000) : ∀ (d i : Nat) (a b : List Sn), L.length - i = d → i ≤ L.length → a.length + b.length ≤ i → Res (fun k => portset_Parse.l0 k a b (L.map mkB) (L.length : Int) (i : Int)) (prs (L.drop i) a b)
  | 0, i, a, b, hd, hi, hab => by
    rw [List.drop_of_length_le (by omega), prs]
    obtain ⟨r, r1, r2⟩ := eval_spec a b (by omega) (by omega)
    refine ⟨r, Ev.step (fun k => ?_) (Ev.bind (f := fun _ t => some (t, (0 : Int))) r1 (Ev.now _)), r2⟩
    rw [portset_Parse.l0, if_neg (by omega)]
  | d + 1, i, a, b, hd, hi, hab => by
    have hl : i < L.length := by omega
    have hx := hz _ (List.getElem_mem hl)
    rw [List.drop_eq_getElem_cons hl, prs]
    have hit := item_ev (mkB (bare L[i])) (by rw [size_list, mkB_list]; have := bare_len L[i]; omega)
    rw [mkB_list] at hit
    generalize itemV (bare L[i]) = v at hit ⊢
    obtain ⟨x, y, e⟩ := v
    dsimp only
    have hstep : ∀ k, portset_Parse.l0 (k + 1) a b (L.map mkB) (L.length : Int) (i : Int) = ((portset_item.f k (mkB (bare L[i]))).bind fun bt199 => (if bt199.2.2 = 0 then (if excl L[i] = true then (if b.length < 8796093022208 then (portset_Parse.l0 k a (b ++ [(⟨bt199.1, bt199.2.1⟩ : Sn)]) (L.map mkB) (L.length : Int) ((i + 1 : Nat) : Int)) else (none)) else (if a.length < 8796093022208 then (portset_Parse.l0 k (a ++ [(⟨bt199.1, bt199.2.1⟩ : Sn)]) b (L.map mkB) (L.length : Int) ((i + 1 : Nat) : Int)) else (none))) else (some (([] : List Sn), bt199.2.2)))) := fun k => by
      rw [portset_Parse.l0, if_pos (by omega), if_pos (by omega), if_pos (by rw [List.length_map]; omega), rdOf_mk L i hl, cutp_eq, Option.bind_some, up_b (by omega)]
    refine Res.step hstep (Res.bind hit ?_)
    dsimp only
    by_cases he : e = 0
    · rw [if_pos he]
      refine Res.congr (fun k => if_pos he) ?_
      by_cases hex : excl L[i] = true
      · rw [if_pos hex]
        refine Res.congr (fun k => (if_pos hex).trans (if_pos (by omega))) ?_
        exact parse0 L hL hz d (i + 1) a _ (by omega) (by omega) (by rw [List.length_append]; simp; omega)
      · rw [if_neg hex]
        refine Res.congr (fun k => (if_neg hex).trans (if_pos (by omega))) ?_
        exact parse0 L hL hz d (i + 1) _ b (by omega) (by omega) (by rw [List.length_append]; simp; omega)
    · rw [if_neg he]
      exact Res.congr (fun k => if_neg he) (Ev.now _)
theorem spl_count (c : UInt8) : ∀ (l cur : List UInt8), (spl c cur l).length = Lib.count l [c] + 1
  | [], cur => by rw [Lib.count_one]; rfl
  | x :: t, cur => by
    rw [spl]
    by_cases h : x = c
    · subst h
      rw [if_pos rfl, Lib.count_cons_eq, List.length_cons, spl_count x t []]
      omega
    · rw [if_neg h, Lib.count_cons_ne x c t h, spl_count c t (cur ++ [x])]
def anyL : List UInt8 := [97, 110, 121]
def parseV (l : List UInt8) : (List Sn × List Sn) ⊕ Int := if l.length > 1024 then .inr 3 else if l = anyL then .inl ([], []) else if (spl 44 [] l).length > 64 then .inr 3 else prs (spl 44 [] l) [] []
theorem parse_spec (s : ByteArray) : Res (fun k => portset_Parse.f k s) (parseV s.data.toList) := by
  unfold parseV portset_Parse.f
  rw [size_list]
  by_cases h1 : s.data.toList.length > 1024
  · rw [if_pos h1]
    refine Res.congr (fun k => if_pos (by omega)) ?_
    refine Ev.step (f := fun _ => some (([] : List Sn), (3 : Int))) (fun k => ?_) (Ev.now _)
    rw [portset_Parse.j0, if_pos rfl]
  · rw [if_neg h1]
    refine Res.congr (fun k => if_neg (by omega)) ?_
    have hc : strings_Count.f s (⟨#[44]⟩ : ByteArray) = some (((spl 44 [] s.data.toList).length : Int) - 1) := by
      unfold strings_Count.f
      rw [if_pos (by rw [size_list]; omega), if_pos (by exact Nat.le_refl 1)]
      congr 1
      rw [spl_count]
      show ((Lib.count s.data.toList [44] : Nat) : Int) = _
      omega
    simp only [hc, Option.bind_some]
    have hany : (spl 44 [] anyL).length = 1 := rfl
    by_cases h2 : s.data.toList = anyL
    · rw [if_pos h2, h2, hany]
      refine ⟨allS, Ev.step (f := fun _ => some (allS, (0 : Int))) (fun k => ?_) (Ev.now _), can_all⟩
      rw [portset_Parse.j0, if_neg (by simp), ByteArray.toList_eq, if_pos (show s.data.toList = ([97, 110, 121] : List UInt8) from h2)]
      rfl
    · rw [if_neg h2]
      by_cases h3 : (spl 44 [] s.data.toList).length > 64
      · rw [if_pos h3]
        refine Ev.step (f := fun _ => some (([] : List Sn), (3 : Int))) (fun k => ?_) (Ev.now _)
        rw [portset_Parse.j0, if_pos (by rw [decide_eq_true_eq]; omega)]
      · rw [if_neg h3]
        have h0 := parse0 (spl 44 [] s.data.toList) (by omega) (fun x hx => by have := spl_mem 44 _ [] x hx; simp only [List.length_nil] at this; omega) _ 0 [] [] rfl (by omega) (by simp)
        rw [List.drop_zero] at h0
        refine Res.step (fun k => ?_) h0
        rw [portset_Parse.j0, if_neg (by rw [decide_eq_true_eq]; omega), ByteArray.toList_eq, if_neg (show ¬ s.data.toList = ([97, 110, 121] : List UInt8) from h2), split_eq s 44 (by rw [size_list]; omega), Option.bind_some, List.length_map]
        rfl
theorem same8_0 (L : List Sn) (hl : L.length < 8796093022208) : ∀ (d i : Nat), L.length - i = d → i ≤ L.length → Ev (fun k => intrusionlaw08_same.l0 k L L (L.length : Int) (i : Int)) true := by
  intro d
  induction d with
  | zero =>
    intro i hd hi
    have : i = L.length := by omega
    subst this
    refine Ev.step (f := fun _ => some true) (fun k => ?_) (Ev.now _)
    simp only [intrusionlaw08_same.l0]; rw [if_neg (by omega)]
  | succ d ih =>
    intro i hd hi
    have hlt : i < L.length := by omega
    refine Ev.step (fun k => ?_) (ih (i + 1) (by omega) (by omega))
    simp only [intrusionlaw08_same.l0]
    rw [if_pos (by omega), if_pos (by omega), if_pos (by omega), if_pos (by omega), wrap_succ i (by omega)]
    simp
theorem same8_ev (L : List Sn) (hl : L.length < 8796093022208) : Ev (fun k => intrusionlaw08_same.f k L L) true := by
  have h := same8_0 L hl L.length 0 (by omega) (by omega)
  refine Ev.congr (fun k => ?_) h
  unfold intrusionlaw08_same.f
  rw [if_pos rfl]
  rfl
end Go.Proofs.YtbimdjciacnioaaDoor.Q
end

section
namespace Go.Proofs.YtbimdjciacnioaaDoor.Q
open Go.RowKit Go.Proofs.YtbimdjciacnioaaDoorW.PrintWords Go.Proofs.YtbimdjciacnioaaDoorW.PrintLast Go.Proofs.YtbimdjciacnioaaDoorW.PrintMore
attribute [local go_sem] max2_int min2_int max_two min_two max_three min_three max_four min_four
set_option linter.unusedVariables false
set_option linter.unusedSimpArgs false
def intrusionref08_digits.l0 : Nat → Int → ByteArray → Option (ByteArray)
  | 0, _, _ => none
  | k + 1, x0, x3 => (some (([(wrap64 (48 + (Int.tmod x0 10))) % 256] : List Int) : List Int)).bind fun y443 => (if (strOfNums y443).size + x3.size ≤ 9223372036854775807 then (if (wrap64 (Int.tdiv x0 10)) = 0 then (some ((strOfNums y443) ++ x3)) else (intrusionref08_digits.l0 k (wrap64 (Int.tdiv x0 10)) ((strOfNums y443) ++ x3))) else (none))
def intrusionref08_digits.f (k : Nat) (a0 : Int) : Option (ByteArray) := intrusionref08_digits.l0 k a0 (⟨#[]⟩ : ByteArray)
theorem intrusionref08_digits.mono_l : ∀ k, (∀ y0 y1, LeO (intrusionref08_digits.l0 k y0 y1) (intrusionref08_digits.l0 (k + 1) y0 y1))
  | 0 => fun _ _ r h => by simp [intrusionref08_digits.l0] at h
  | k + 1 => by
    have ih0 := intrusionref08_digits.mono_l k
    · intro y0 y1
      unfold intrusionref08_digits.l0
      repeat' first
      | (with_reducible exact ih0 _ _)
      | (with_reducible exact LeO.refl _)
      | (with_reducible exact LeO.none _)
      | (with_reducible refine LeO.ite ?_ ?_)
      | (with_reducible refine LeO.bind ?_ (fun _ => ?_))
      | exact ih0 _ _
      | exact LeO.none _
      | refine LeO.ite ?_ ?_
      | refine LeO.bind ?_ (fun _ => ?_)
theorem intrusionref08_digits.mono : ∀ a0 k, LeO (intrusionref08_digits.f k a0) (intrusionref08_digits.f (k + 1) a0) := by
  intro a0 k
  have ih0 := intrusionref08_digits.mono_l k
  unfold intrusionref08_digits.f
  repeat' first
      | (with_reducible exact ih0 _ _)
      | (with_reducible exact LeO.refl _)
      | (with_reducible exact LeO.none _)
      | (with_reducible refine LeO.ite ?_ ?_)
      | (with_reducible refine LeO.bind ?_ (fun _ => ?_))
      | exact ih0 _ _
      | exact LeO.none _
      | refine LeO.ite ?_ ?_
      | refine LeO.bind ?_ (fun _ => ?_)
end Go.Proofs.YtbimdjciacnioaaDoor.Q
end

section
namespace Go.Proofs.YtbimdjciacnioaaDoor.Q
open Go.RowKit Go.Proofs.YtbimdjciacnioaaDoorW.PrintWords Go.Proofs.YtbimdjciacnioaaDoorW.PrintLast Go.Proofs.YtbimdjciacnioaaDoorW.PrintMore
attribute [local go_sem] max2_int min2_int max_two min_two max_three min_three max_four min_four
set_option linter.unusedVariables false
set_option linter.unusedSimpArgs false
attribute [local go_sem high] eqA33
mutual
def intrusionref08_Format.l0 : Nat → List (S33) → ByteArray → Int → Option (ByteArray)
  | 0, _, _, _ => none
  | k + 1, x3, x4, x5 => if x5 < (x3.length : Int) then (if x5 > 0 then (if x4.size + 1 ≤ 9223372036854775807 then (intrusionref08_Format.j1 k x3 (x4 ++ (⟨#[44]⟩ : ByteArray)) x5) else (none)) else (intrusionref08_Format.j1 k x3 x4 x5)) else (some x4)
def intrusionref08_Format.j1 : Nat → List (S33) → ByteArray → Int → Option (ByteArray)
  | 0, _, _, _ => none
  | k + 1, x3, x4, x5 => if 0 ≤ x5 then (if x5 < (x3.length : Int) then ((intrusionref08_digits.f k ((rd_T33 x3 x5).f0)).bind fun t451 => (if x4.size + t451.size ≤ 9223372036854775807 then (if ((rd_T33 x3 x5).f0) = ((rd_T33 x3 x5).f1) then (intrusionref08_Format.l0 k x3 (x4 ++ t451) (wrap64 (x5 + 1))) else (if (x4 ++ t451).size + 1 ≤ 9223372036854775807 then ((intrusionref08_digits.f k ((rd_T33 x3 x5).f1)).bind fun t455 => (if ((x4 ++ t451) ++ (⟨#[58]⟩ : ByteArray)).size + t455.size ≤ 9223372036854775807 then (intrusionref08_Format.l0 k x3 (((x4 ++ t451) ++ (⟨#[58]⟩ : ByteArray)) ++ t455) (wrap64 (x5 + 1))) else (none))) else (none))) else (none))) else (none)) else (none)
end
def intrusionref08_Format.f (k : Nat) (l0 : List (S33)) : Option (ByteArray) := (intrusionref08_ports.f k l0).bind fun t446 => (if (t446.length : Int) = 0 then (some (⟨#[33, 48, 58, 54, 53, 53, 51, 53]⟩ : ByteArray)) else (if 0 < (t446.length : Int) then (if (((rd_T33 t446 0).f0) == 0 && (((rd_T33 t446 0).f1) == 65535)) = true then (some (⟨#[97, 110, 121]⟩ : ByteArray)) else (intrusionref08_Format.l0 k t446 (⟨#[]⟩ : ByteArray) 0)) else (none)))
theorem intrusionref08_Format.mono_l : ∀ k, (∀ y0 y1 y2, LeO (intrusionref08_Format.l0 k y0 y1 y2) (intrusionref08_Format.l0 (k + 1) y0 y1 y2)) ∧ (∀ y0 y1 y2, LeO (intrusionref08_Format.j1 k y0 y1 y2) (intrusionref08_Format.j1 (k + 1) y0 y1 y2))
  | 0 => ⟨fun _ _ _ r h => by simp [intrusionref08_Format.l0] at h, fun _ _ _ r h => by simp [intrusionref08_Format.j1] at h⟩
  | k + 1 => by
    obtain ⟨ih0, ih1⟩ := intrusionref08_Format.mono_l k
    refine ⟨?_, ?_⟩
    · intro y0 y1 y2
      unfold intrusionref08_Format.l0
      repeat' first
      | (with_reducible exact ih0 _ _ _)
      | (with_reducible exact ih1 _ _ _)
      | (with_reducible exact intrusionref08_digits.mono _ _)
      | (with_reducible exact intrusionref08_ports.mono _ _)
      | (with_reducible exact LeO.refl _)
      | (with_reducible exact LeO.none _)
      | (with_reducible refine LeO.ite ?_ ?_)
      | (with_reducible refine LeO.bind ?_ (fun _ => ?_))
      | exact ih0 _ _ _
      | exact ih1 _ _ _
      | exact intrusionref08_digits.mono _ _
      | exact intrusionref08_ports.mono _ _
      | exact LeO.none _
      | refine LeO.ite ?_ ?_
      | refine LeO.bind ?_ (fun _ => ?_)
    · intro y0 y1 y2
      unfold intrusionref08_Format.j1
      repeat' first
      | (with_reducible exact ih0 _ _ _)
      | (with_reducible exact ih1 _ _ _)
      | (with_reducible exact intrusionref08_digits.mono _ _)
      | (with_reducible exact intrusionref08_ports.mono _ _)
      | (with_reducible exact LeO.refl _)
      | (with_reducible exact LeO.none _)
      | (with_reducible refine LeO.ite ?_ ?_)
      | (with_reducible refine LeO.bind ?_ (fun _ => ?_))
      | exact ih0 _ _ _
      | exact ih1 _ _ _
      | exact intrusionref08_digits.mono _ _
      | exact intrusionref08_ports.mono _ _
      | exact LeO.none _
      | refine LeO.ite ?_ ?_
      | refine LeO.bind ?_ (fun _ => ?_)
theorem intrusionref08_Format.mono : ∀ a0 k, LeO (intrusionref08_Format.f k a0) (intrusionref08_Format.f (k + 1) a0) := by
  intro a0 k
  obtain ⟨ih0, ih1⟩ := intrusionref08_Format.mono_l k
  unfold intrusionref08_Format.f
  repeat' first
      | (with_reducible exact ih0 _ _ _)
      | (with_reducible exact ih1 _ _ _)
      | (with_reducible exact intrusionref08_digits.mono _ _)
      | (with_reducible exact intrusionref08_ports.mono _ _)
      | (with_reducible exact LeO.refl _)
      | (with_reducible exact LeO.none _)
      | (with_reducible refine LeO.ite ?_ ?_)
      | (with_reducible refine LeO.bind ?_ (fun _ => ?_))
      | exact ih0 _ _ _
      | exact ih1 _ _ _
      | exact intrusionref08_digits.mono _ _
      | exact intrusionref08_ports.mono _ _
      | exact LeO.none _
      | refine LeO.ite ?_ ?_
      | refine LeO.bind ?_ (fun _ => ?_)
end Go.Proofs.YtbimdjciacnioaaDoor.Q
end

section
set_option linter.unusedVariables false
set_option linter.unusedSimpArgs false
namespace Go.Proofs.YtbimdjciacnioaaDoor.Q
open Go.RowKit Go.Proofs.YtbimdjciacnioaaDoorW.PrintWords Go.Proofs.YtbimdjciacnioaaDoorW.PrintLast Go.Proofs.YtbimdjciacnioaaDoorW.PrintMore Go.Proofs.YtbimdjciacnioaaDoor.Canon
theorem dec_len {d : Nat} : ∀ {n : Nat}, n < 10 ^ (d + 1) → (Lib.decDigits n).length ≤ d + 1 := by
  induction d with
  | zero =>
    intro n h
    rw [Lib.decDigits, dif_pos (by omega)]
    simp
  | succ d ih =>
    intro n h
    rw [Lib.decDigits]
    split
    · simp
    · have := ih (n := n / 10) (by rw [Nat.pow_succ] at h; omega)
      rw [List.length_append, List.length_singleton]
      omega
theorem mkB_app (a b : List UInt8) : mkB a ++ mkB b = mkB (a ++ b) := mkB_eq (by rw [ByteArray.data_append, Array.toList_append]; rfl)
theorem mkB_size (a : List UInt8) : (mkB a).size = a.length := by rw [size_list, mkB_list]
theorem str_one {d : Nat} (h : d < 10) : strOfNums [(48 + (d : Int)) % 256] = mkB [UInt8.ofNat (48 + d)] := by
  refine mkB_eq ?_
  show [UInt8.ofNat ((48 + (d : Int)) % 256).toNat] = _
  rw [show ((48 + (d : Int)) % 256).toNat = 48 + d from by omega]
theorem digits0 : ∀ (d n : Nat) (acc : List UInt8), n < 10 ^ (d + 1) → n < 4294967296 → acc.length + d ≤ 100 → Ev (fun k => intrusionref08_digits.l0 k (n : Int) (mkB acc)) (mkB (Lib.decDigits n ++ acc))
  | 0, n, acc, h, h2, ha => by
    have hn : n < 10 := by omega
    refine Ev.step (f := fun _ => some (mkB (Lib.decDigits n ++ acc))) (fun k => ?_) (Ev.now _)
    rw [intrusionref08_digits.l0, Option.bind_some, Int.tmod_eq_emod_of_nonneg (by omega), Int.tdiv_eq_ediv_of_nonneg (by omega), show ((n : Int) % 10) = (n : Int) from by omega, show ((n : Int) / 10) = 0 from by omega, wid (x := 48 + (n : Int)) (by omega) (by omega), str_one hn, mkB_size, mkB_size, if_pos (by simp; omega), if_pos (wid (x := 0) (by omega) (by omega)), mkB_app, Lib.decDigits, dif_pos hn]
  | d + 1, n, acc, h, h2, ha => by
    by_cases hn : n < 10
    · refine Ev.step (f := fun _ => some (mkB (Lib.decDigits n ++ acc))) (fun k => ?_) (Ev.now _)
      rw [intrusionref08_digits.l0, Option.bind_some, Int.tmod_eq_emod_of_nonneg (by omega), Int.tdiv_eq_ediv_of_nonneg (by omega), show ((n : Int) % 10) = (n : Int) from by omega, show ((n : Int) / 10) = 0 from by omega, wid (x := 48 + (n : Int)) (by omega) (by omega), str_one hn, mkB_size, mkB_size, if_pos (by simp; omega), if_pos (wid (x := 0) (by omega) (by omega)), mkB_app, Lib.decDigits, dif_pos hn]
    · have ih := digits0 d (n / 10) (UInt8.ofNat (48 + n % 10) :: acc) (by rw [Nat.pow_succ] at h; omega) (by omega) (by simp; omega)
      rw [Lib.decDigits, dif_neg hn, List.append_assoc]
      refine Ev.step (fun k => ?_) ih
      rw [intrusionref08_digits.l0, Option.bind_some, Int.tmod_eq_emod_of_nonneg (by omega), Int.tdiv_eq_ediv_of_nonneg (by omega), show ((n : Int) % 10) = ((n % 10 : Nat) : Int) from by omega, show ((n : Int) / 10) = ((n / 10 : Nat) : Int) from by omega, wid (x := 48 + ((n % 10 : Nat) : Int)) (by omega) (by omega), str_one (by omega), mkB_size, mkB_size, if_pos (by simp; omega), wid (x := ((n / 10 : Nat) : Int)) (by omega) (by omega), if_neg (by omega), mkB_app]
      rfl
theorem digits_ev {x : Int} (h0 : 0 ≤ x) (h1 : x ≤ 65535) : Ev (fun k => intrusionref08_digits.f k x) (mkB (Lib.decDigits x.toNat)) := by
  have h := digits0 4 x.toNat [] (by omega) (by omega) (by simp)
  rw [List.append_nil, show ((x.toNat : Nat) : Int) = x from by omega] at h
  exact h
theorem itoa_ev {x : Int} (h0 : 0 ≤ x) (h1 : x ≤ 65535) : strconv_Itoa.f x = some (mkB (Lib.decDigits x.toNat)) := by
  unfold strconv_Itoa.f
  rw [if_pos (by omega)]
  unfold Lib.itoa
  rw [if_neg (by omega)]
  rfl
theorem dec5 {x : Int} (h0 : 0 ≤ x) (h1 : x ≤ 65535) : (Lib.decDigits x.toNat).length ≤ 5 := dec_len (d := 4) (by omega)
def fmtI (x : Sn) : List UInt8 := if x.f0 < x.f1 then Lib.decDigits x.f0.toNat ++ 58 :: Lib.decDigits x.f1.toNat else Lib.decDigits x.f0.toNat
def fmtV : List Sn → List UInt8
  | [] => [33, 48, 58] ++ Lib.itoa 65535
  | x :: t => if x.f0 = 0 ∧ x.f1 = 65535 then anyL else jn 44 ((x :: t).map fmtI)
def PW (x : Sn) : Prop := 0 ≤ x.f0 ∧ x.f0 ≤ x.f1 ∧ x.f1 ≤ 65535
theorem fmtI_len {x : Sn} (h : PW x) : (fmtI x).length ≤ 11 := by
  obtain ⟨h0, h1, h2⟩ := h
  have a1 := dec5 h0 (by omega)
  have a2 := dec5 (x := x.f1) (by omega) h2
  unfold fmtI
  split
  · rw [List.length_append, List.length_cons]; omega
  · omega
theorem join_jn (L : List (List UInt8)) : Lib.join L [44] = jn 44 L := by
  cases L with
  | nil => rfl
  | cons x t => rw [Lib.join_cons]; rfl
theorem jn_len : ∀ (L : List (List UInt8)) (m : Nat), (∀ x ∈ L, x.length ≤ m) → (jn 44 L).length ≤ (m + 1) * L.length := by
  intro L m
  cases L with
  | nil => intro _; simp [jn]
  | cons x t =>
    intro h
    rw [jn, List.length_append, List.length_cons]
    have hx := h x (by simp)
    have ht : ∀ t : List (List UInt8), (∀ z ∈ t, z.length ≤ m) → ((t.map ((44 : UInt8) :: ·)).flatten).length ≤ (m + 1) * t.length := by
      intro t
      induction t with
      | nil => intro _; simp
      | cons y t ih =>
        intro h
        have := ih (fun z hz => h z (by simp [hz]))
        have hy := h y (by simp)
        rw [List.map_cons, List.flatten_cons, List.length_append, List.length_cons, List.length_cons, Nat.mul_succ]
        omega
    have := ht t (fun z hz => h z (by simp [hz]))
    rw [Nat.mul_succ]
    omega
theorem pform0 (R : List Sn) (hR : R.length ≤ 100000) (hw : ∀ x ∈ R, PW x) : ∀ (d i : Nat) (out : List (List UInt8)), R.length - i = d → i ≤ R.length → out.length = i → (∀ z ∈ out, z.length ≤ 11) → Ev (fun k => portset_Format.l0 k (out.map mkB) R (R.length : Int) (i : Int)) (mkB (jn 44 (out ++ (R.drop i).map fmtI)))
  | 0, i, out, hd, hi, ho, hz => by
    rw [List.drop_of_length_le (by omega), List.map_nil, List.append_nil]
    refine Ev.step (f := fun _ => some (mkB (jn 44 out))) (fun k => ?_) (Ev.now _)
    rw [portset_Format.l0, if_neg (by omega)]
    unfold strings_Join.f
    have e : (out.map mkB).map (·.data.toList) = out := by
      rw [List.map_map]
      have : (fun x : ByteArray => x.data.toList) ∘ mkB = id := by funext x; rfl
      rw [this, List.map_id]
    rw [e]
    show (if (Lib.join out [44]).length ≤ 140737488355328 then if (out.map mkB).length ≤ 140737488355328 then some (mkB (Lib.join out [44])) else none else none).bind _ = _
    rw [join_jn]
    have := jn_len out 11 hz
    rw [if_pos (by omega), if_pos (by rw [List.length_map]; omega)]
    rfl
  | d + 1, i, out, hd, hi, ho, hz => by
    have hl : i < R.length := by omega
    have hx := hw _ (List.getElem_mem hl)
    have ih := pform0 R hR hw d (i + 1) (out ++ [fmtI R[i]]) (by omega) (by omega) (by rw [List.length_append]; simp; omega) (fun z hz2 => by
      rcases List.mem_append.1 hz2 with h | h
      · exact hz z h
      · rw [List.mem_singleton.1 h]; exact fmtI_len hx)
    rw [List.append_assoc] at ih
    rw [List.drop_eq_getElem_cons hl, List.map_cons]
    refine Ev.step (fun k => ?_) ih
    have hlen := fmtI_len hx
    obtain ⟨h0, h1, h2⟩ := hx
    have a1 := dec5 h0 (by omega)
    have a2 := dec5 (x := R[i].f1) (by omega) h2
    rw [portset_Format.l0, if_pos (by omega), if_pos (by omega), if_pos (by omega), rd_at R i hl, itoa_ev h0 (by omega), Option.bind_some, up_b (by omega)]
    by_cases hlt : R[i].f0 < R[i].f1
    · have e58 : (⟨#[58]⟩ : ByteArray) = mkB [58] := rfl
      rw [if_pos hlt, itoa_ev (by omega) h2, Option.bind_some, e58, mkB_app, mkB_size, if_pos (by omega), mkB_size, mkB_size, if_pos (by simp; omega), if_pos (by rw [List.length_map]; omega), mkB_app, List.map_append]
      have : fmtI R[i] = Lib.decDigits R[i].f0.toNat ++ ([58] ++ Lib.decDigits R[i].f1.toNat) := by unfold fmtI; rw [if_pos hlt]; rfl
      rw [this]
      rfl
    · have : fmtI R[i] = Lib.decDigits R[i].f0.toNat := by unfold fmtI; rw [if_neg hlt]
      rw [if_neg hlt, if_pos (by rw [List.length_map]; omega), List.map_append, this]
      rfl
def tailF (R : List Sn) : List UInt8 := (R.map (fun x => (44 : UInt8) :: fmtI x)).flatten
theorem rform_j1 (R : List Sn) (hR : R.length ≤ 100000) (hw : ∀ x ∈ R, PW x) (i : Nat) (hl : i < R.length) (A Z : List UInt8) (hA : A.length ≤ 12 * i + 1) (ih : Ev (fun k => intrusionref08_Format.l0 k R (mkB (A ++ fmtI R[i])) ((i + 1 : Nat) : Int)) (mkB Z)) : Ev (fun k => intrusionref08_Format.j1 k R (mkB A) (i : Int)) (mkB Z) := by
  have hx := hw _ (List.getElem_mem hl)
  obtain ⟨h0, h1, h2⟩ := hx
  have a1 := dec5 h0 (by omega)
  have a2 := dec5 (x := R[i].f1) (by omega) h2
  refine Ev.step (fun k => ?_) (f := fun k => (intrusionref08_digits.f k R[i].f0).bind fun t451 => (if (mkB A).size + t451.size ≤ 9223372036854775807 then (if R[i].f0 = R[i].f1 then (intrusionref08_Format.l0 k R (mkB A ++ t451) ((i + 1 : Nat) : Int)) else (if (mkB A ++ t451).size + 1 ≤ 9223372036854775807 then ((intrusionref08_digits.f k R[i].f1).bind fun t455 => (if ((mkB A ++ t451) ++ (⟨#[58]⟩ : ByteArray)).size + t455.size ≤ 9223372036854775807 then (intrusionref08_Format.l0 k R (((mkB A ++ t451) ++ (⟨#[58]⟩ : ByteArray)) ++ t455) ((i + 1 : Nat) : Int)) else (none))) else (none))) else (none))) (Ev.bind (digits_ev h0 (by omega)) ?_)
  · rw [intrusionref08_Format.j1, if_pos (by omega), if_pos (by omega), rd_at R i hl, up_b (by omega)]
  · refine Ev.congr (fun k => if_pos (by rw [mkB_size, mkB_size]; omega)) ?_
    by_cases he : R[i].f0 = R[i].f1
    · have : fmtI R[i] = Lib.decDigits R[i].f0.toNat := by unfold fmtI; rw [if_neg (by omega)]
      rw [this] at ih
      refine Ev.congr (fun k => if_pos he) ?_
      rw [mkB_app]
      exact ih
    · have : fmtI R[i] = Lib.decDigits R[i].f0.toNat ++ 58 :: Lib.decDigits R[i].f1.toNat := by unfold fmtI; rw [if_pos (by omega)]
      rw [this] at ih
      refine Ev.congr (fun k => (if_neg he).trans (if_pos (by rw [mkB_app, mkB_size, List.length_append]; omega))) ?_
      refine Ev.bind (digits_ev (x := R[i].f1) (by omega) h2) ?_
      have e58 : (⟨#[58]⟩ : ByteArray) = mkB [58] := rfl
      have e : ((mkB A ++ mkB (Lib.decDigits R[i].f0.toNat)) ++ mkB [58]) ++ mkB (Lib.decDigits R[i].f1.toNat) = mkB (A ++ (Lib.decDigits R[i].f0.toNat ++ 58 :: Lib.decDigits R[i].f1.toNat)) := by
        rw [mkB_app, mkB_app, mkB_app, List.append_assoc, List.append_assoc]
        rfl
      rw [e58, e]
      refine Ev.congr (fun k => if_pos (by rw [mkB_app, mkB_app, mkB_size, mkB_size]; simp only [List.length_append, List.length_cons, List.length_nil]; omega)) ih
theorem rform0 (R : List Sn) (hR : R.length ≤ 100000) (hw : ∀ x ∈ R, PW x) : ∀ (d i : Nat) (A : List UInt8), R.length - i = d → i ≤ R.length → 0 < i → A.length ≤ 12 * i → Ev (fun k => intrusionref08_Format.l0 k R (mkB A) (i : Int)) (mkB (A ++ tailF (R.drop i)))
  | 0, i, A, hd, hi, hp, hA => by
    rw [List.drop_of_length_le (by omega), show tailF [] = [] from rfl, List.append_nil]
    refine Ev.step (f := fun _ => some (mkB A)) (fun k => ?_) (Ev.now _)
    rw [intrusionref08_Format.l0, if_neg (by omega)]
  | d + 1, i, A, hd, hi, hp, hA => by
    have hl : i < R.length := by omega
    have hx := hw _ (List.getElem_mem hl)
    have hlen := fmtI_len hx
    have ih := rform0 R hR hw d (i + 1) ((A ++ [44]) ++ fmtI R[i]) (by omega) (by omega) (by omega) (by simp only [List.length_append, List.length_cons, List.length_nil]; omega)
    have hj := rform_j1 R hR hw i hl (A ++ [44]) _ (by simp only [List.length_append, List.length_cons, List.length_nil]; omega) ih
    rw [List.drop_eq_getElem_cons hl]
    have e : A ++ tailF (R[i] :: R.drop (i + 1)) = ((A ++ [44]) ++ fmtI R[i]) ++ tailF (R.drop (i + 1)) := by
      show A ++ ((44 : UInt8) :: fmtI R[i] ++ tailF (R.drop (i + 1))) = _
      simp
    rw [e]
    refine Ev.step (fun k => ?_) hj
    have e44 : (⟨#[44]⟩ : ByteArray) = mkB [44] := rfl
    rw [intrusionref08_Format.l0, if_pos (by omega), if_pos (by omega), mkB_size, if_pos (by omega), e44, mkB_app]
theorem rform_ev (x : Sn) (t : List Sn) (hR : (x :: t).length ≤ 100000) (hw : ∀ y ∈ x :: t, PW y) : Ev (fun k => intrusionref08_Format.l0 k (x :: t) (⟨#[]⟩ : ByteArray) 0) (mkB (jn 44 ((x :: t).map fmtI))) := by
  have hlen := fmtI_len (hw x (by simp))
  have h1 := rform0 (x :: t) hR hw _ 1 (fmtI x) rfl (by simp) (by omega) (by omega)
  have hj := rform_j1 (x :: t) hR hw 0 (by simp) [] _ (by simp) h1
  have e : jn 44 ((x :: t).map fmtI) = fmtI x ++ tailF ((x :: t).drop 1) := by
    rw [List.map_cons, jn]
    show fmtI x ++ ((t.map fmtI).map ((44 : UInt8) :: ·)).flatten = fmtI x ++ tailF t
    rw [List.map_map]
    rfl
  rw [e]
  refine Ev.step (fun k => ?_) hj
  rw [intrusionref08_Format.l0, if_pos (by simp), if_neg (by omega)]
  rfl
theorem itoa_last : Lib.itoa 65535 = [54, 53, 53, 51, 53] := by kernel_rfl
theorem port_wf {l r : List Sn} (h : Can (portP l) r) : ∀ x ∈ r, PW x := fun x hx => by
  obtain ⟨h0, h1, _⟩ := h.wf x hx
  have h2 := (h.2.2 x.f1).1 ((sm_iff r x.f1).2 ⟨x, hx, h1, Int.le_refl _⟩)
  exact ⟨h0, h1, h2.2.2⟩
theorem format_spec (l : List Sn) (hl : l.length < 400) : ∃ r, Can (portP l) r ∧ r.length ≤ l.length + 1 ∧ Ev (fun k => intrusionref08_ports.f k l) r ∧ Ev (fun k => interval_Intersect.f k l allS) r ∧ Ev (fun k => portset_Format.f k l) (mkB (fmtV r)) ∧ Ev (fun k => intrusionref08_Format.f k l) (mkB (fmtV r)) := by
  obtain ⟨r, r1, r2, r3, r4, r5⟩ := ports_spec l hl
  have hw := port_wf r2
  refine ⟨r, r2, r3, r1, r5, ?_, ?_⟩
  · unfold portset_Format.f portset_given.f portset_All.f
    rw [if_pos (by omega)]
    simp only [Option.bind_some]
    refine Ev.bind r4 ?_
    cases r with
    | nil =>
      refine Ev.congr (fun k => if_pos rfl) ?_
      rw [itoa_ev (by omega) (by omega)]
      simp only [Option.bind_some]
      refine Ev.congr (fun k => if_pos (by rw [mkB_size]; have := dec5 (x := 65535) (by omega) (by omega); omega)) ?_
      exact Ev.now _
    | cons x t =>
      refine Ev.congr (fun k => (if_neg (by simp only [List.length_cons]; omega)).trans ((if_pos (by simp only [List.length_cons]; omega)).trans (if_pos (by decide)))) ?_
      have r0 : rd_T33 (x :: t) 0 = x := rfl
      have ra : rd_T33 [(⟨0, 65535⟩ : Sn)] 0 = ⟨0, 65535⟩ := rfl
      rw [r0, ra]
      by_cases h : x.f0 = 0 ∧ x.f1 = 65535
      · refine Ev.congr (fun k => if_pos (by rw [Bool.and_eq_true, beq_iff_eq, beq_iff_eq]; exact h)) ?_
        rw [fmtV, if_pos h]
        exact Ev.now _
      · refine Ev.congr (fun k => if_neg (by rw [Bool.and_eq_true, beq_iff_eq, beq_iff_eq]; exact h)) ?_
        rw [fmtV, if_neg h]
        have := pform0 (x :: t) (by omega) hw _ 0 [] rfl (by omega) rfl (by simp)
        simpa using this
  · unfold intrusionref08_Format.f
    refine Ev.bind r1 ?_
    cases r with
    | nil =>
      refine Ev.congr (fun k => if_pos rfl) ?_
      rw [fmtV, itoa_last]
      exact Ev.now _
    | cons x t =>
      refine Ev.congr (fun k => (if_neg (by simp only [List.length_cons]; omega)).trans (if_pos (by simp only [List.length_cons]; omega))) ?_
      have r0 : rd_T33 (x :: t) 0 = x := rfl
      rw [r0]
      by_cases h : x.f0 = 0 ∧ x.f1 = 65535
      · refine Ev.congr (fun k => if_pos (by rw [Bool.and_eq_true, beq_iff_eq, beq_iff_eq]; exact h)) ?_
        rw [fmtV, if_pos h]
        exact Ev.now _
      · refine Ev.congr (fun k => if_neg (by rw [Bool.and_eq_true, beq_iff_eq, beq_iff_eq]; exact h)) ?_
        rw [fmtV, if_neg h]
        exact rform_ev x t (by omega) hw
end Go.Proofs.YtbimdjciacnioaaDoor.Q
end

section
set_option linter.unusedVariables false
set_option linter.unusedSimpArgs false
namespace Go.Proofs.YtbimdjciacnioaaDoor.Q
open Go.RowKit Go.Proofs.YtbimdjciacnioaaDoorW.PrintWords Go.Proofs.YtbimdjciacnioaaDoorW.PrintLast Go.Proofs.YtbimdjciacnioaaDoorW.PrintMore Go.Proofs.YtbimdjciacnioaaDoor.Canon
theorem i1 : itemV (bare [56, 48]) = (80, 80, 0) ∧ excl [56, 48] = false := by constructor <;> kernel_rfl
theorem i2 : itemV (bare [56, 48, 48, 48, 58, 56, 48, 48, 50]) = (8000, 8002, 0) ∧ excl [56, 48, 48, 48, 58, 56, 48, 48, 50] = false := by constructor <;> kernel_rfl
theorem i3 : itemV (bare [33, 56, 48, 48, 49]) = (8001, 8001, 0) ∧ excl [33, 56, 48, 48, 49] = true := by constructor <;> kernel_rfl
theorem ex1 : parseV [56, 48, 44, 56, 48, 48, 48, 58, 56, 48, 48, 50, 44, 33, 56, 48, 48, 49] = .inl ([(⟨80, 80⟩ : Sn), ⟨8000, 8002⟩], [(⟨8001, 8001⟩ : Sn)]) := by
  have e : spl 44 [] [56, 48, 44, 56, 48, 48, 48, 58, 56, 48, 48, 50, 44, 33, 56, 48, 48, 49] = [[56, 48], [56, 48, 48, 48, 58, 56, 48, 48, 50], [33, 56, 48, 48, 49]] := by rfl
  unfold parseV
  rw [if_neg (by decide), if_neg (by decide), e, if_neg (by decide), prs, i1.1, i1.2]
  dsimp only
  rw [if_pos rfl, if_neg Bool.false_ne_true, prs, i2.1, i2.2]
  dsimp only
  rw [if_pos rfl, if_neg Bool.false_ne_true, prs, i3.1, i3.2]
  rfl
theorem i4 : (itemV (bare [55, 58, 53])).2.2 = 4 := by kernel_rfl
theorem i5 : (itemV (bare [])).2.2 = 14 := by kernel_rfl
theorem ex2 : parseV [55, 58, 53] = .inr 4 := by
  have e : spl 44 [] [55, 58, 53] = [[55, 58, 53]] := by rfl
  unfold parseV
  rw [if_neg (by decide), if_neg (by decide), e, if_neg (by decide), prs, if_neg (by rw [i4]; decide), i4]
theorem ex3 : parseV [] = .inr 14 := by
  have e : spl 44 [] [] = [[]] := by rfl
  unfold parseV
  rw [if_neg (by decide), if_neg (by decide), e, if_neg (by decide), prs, if_neg (by rw [i5]; decide), i5]
theorem parse_at (s : ByteArray) (l : List UInt8) (v : (List Sn × List Sn) ⊕ Int) (h : s.data.toList = l) (hv : parseV l = v) : Res (fun k => portset_Parse.f k s) v := by
  have p := parse_spec s
  rw [h, hv] at p
  exact p
theorem awake8_ev : Ev (fun k => intrusionlaw08_awake.f k) true := by
  have p1 := parse_at (⟨#[56, 48, 44, 56, 48, 48, 48, 58, 56, 48, 48, 50, 44, 33, 56, 48, 48, 49]⟩ : ByteArray) _ _ rfl ex1
  have p2 := parse_at (⟨#[55, 58, 53]⟩ : ByteArray) _ _ rfl ex2
  have p3 := parse_at (⟨#[]⟩ : ByteArray) _ _ rfl ex3
  obtain ⟨r1, q1, c1⟩ := p1
  obtain ⟨r4, q4, c4⟩ := eval_spec [] [(⟨0, 1023⟩ : Sn)] (by decide) (by decide)
  obtain ⟨r5, c5, _, _, _, q5, _⟩ := format_spec [(⟨1, 2⟩ : Sn), ⟨9, 9⟩] (by decide)
  have h1 : r1 = [(⟨80, 80⟩ : Sn), ⟨8000, 8000⟩, ⟨8002, 8002⟩] := c1.uniq ⟨by simp [CanFrom, sp], by simp, fun n => by
    unfold evP
    simp only [sm_cons, sm_nil, or_false, reduceCtorEq, false_or]
    omega⟩
  have h4 : r4 = [(⟨1024, 65535⟩ : Sn)] := c4.uniq ⟨by simp [CanFrom, sp], by simp, fun n => by
    unfold evP
    simp only [sm_cons, sm_nil, or_false, true_or, true_and]
    omega⟩
  have h5 : r5 = [(⟨1, 2⟩ : Sn), ⟨9, 9⟩] := c5.uniq ⟨by simp [CanFrom, sp], by simp, fun n => by
    unfold portP
    simp only [sm_cons, sm_nil, or_false]
    omega⟩
  subst h1 h4 h5
  unfold intrusionlaw08_awake.f
  refine Ev.bind q1 (Ev.bind p2 (Ev.bind p3 (Ev.bind q4 (Ev.bind (same8_ev _ (by decide)) ?_))))
  simp only [if_true]
  refine Ev.bind (same8_ev _ (by decide)) ?_
  simp only [if_true]
  refine Ev.bind q5 ?_
  have e : (mkB (fmtV [(⟨1, 2⟩ : Sn), ⟨9, 9⟩])).toList = ([49, 58, 50, 44, 57] : List UInt8) := by
    rw [ByteArray.toList_eq, mkB_list]
    kernel_rfl
  refine Ev.congr (fun k => if_pos e) ?_
  unfold portset_All.f
  simp only [Option.bind_some]
  exact Ev.bind (same8_ev _ (by decide)) (Ev.now _)
theorem large_ev (l : List Sn) : intrusionlaw08_large.f l = some (decide ((l.length : Int) > 60)) := rfl
theorem then_awake : Ev (fun k => (intrusionlaw08_awake.f k).bind fun t => some t) true := Ev.bind awake8_ev (Ev.now _)
end Go.Proofs.YtbimdjciacnioaaDoor.Q
end

section
set_option linter.unusedVariables false
set_option linter.unusedSimpArgs false
namespace Go.Proofs.YtbimdjciacnioaaDoor.Pure
open Go.RowKit Go.Proofs.YtbimdjciacnioaaDoor.Q Go.Proofs.YtbimdjciacnioaaDoor.Canon Go.Proofs.YtbimdjciacnioaaDoorW.PrintWords Go.Proofs.YtbimdjciacnioaaDoorW.PrintLast
theorem mem_end (a b : List Sn) (n : Int) (ha : a.length ≤ 60) (hb : b.length ≤ 60) (c : Bool) (hc : c = true ↔ evP a b n) (f : Nat → List Sn → Bool → Option Bool) (hf : ∀ k r, f k r c = (intrusionlaw08_awake.f k).bind fun t => some t) : Ev (fun k => (portset_Eval.f k a b).bind fun t => (interval_Contains.f t n).bind fun u => f k t u) true := by
  obtain ⟨r, r1, r2⟩ := eval_spec a b (by omega) (by omega)
  refine Ev.bind r1 ?_
  have e : interval_Contains.f r n = some c := by
    rw [contains_eq]
    congr 1
    rw [Bool.eq_iff_iff, inB_iff, hc, r2.2.2 n]
    constructor
    · exact fun h => h.1
    · exact fun h => ⟨h, r2.range n h⟩
  simp only [e, Option.bind_some]
  exact Ev.congr (fun k => hf k r) then_awake
theorem inB_dec (l : List Sn) (n : Int) (h0 : 0 ≤ n) (h1 : n ≤ 65535) : inB l n = true ↔ SM l n := by
  rw [inB_iff]
  constructor
  · exact fun h => h.1
  · exact fun h => ⟨h, h0, by omega⟩
theorem members_j (a b : List Sn) (n : Int) (x : Bool) (h : x = false → a.length ≤ 60 ∧ b.length ≤ 60) : Ev (fun k => intrusionlaw08_PortsetMembers.j0 k a b n x) true := by
  cases x
  · obtain ⟨h1, h2⟩ := h rfl
    refine Ev.step (fun k => by rw [intrusionlaw08_PortsetMembers.j0, if_neg Bool.false_ne_true]) ?_
    simp only [contains_eq, Option.bind_some]
    have hNot : ∀ (hn : ¬ evP a b n), Ev (fun k => (portset_Eval.f k a b).bind fun t => (some (inB t n)).bind fun u => if (u == false) = true then (intrusionlaw08_awake.f k).bind fun t => some t else some false) true := fun hn => by
      have := mem_end a b n h1 h2 false (by constructor; exact (fun h => by cases h); exact (fun h => absurd h hn)) (fun k t u => if (u == false) = true then (intrusionlaw08_awake.f k).bind fun t => some t else some false) (fun k r => if_pos rfl)
      simpa only [contains_eq] using this
    have hGe : ∀ (hs : (a = [] ∨ SM a n) ∨ ¬ (0 ≤ n ∧ n ≤ 65535)) (hb : ¬ SM b n ∨ ¬ (0 ≤ n ∧ n ≤ 65535)) (hn : n ≥ 0), Ev (fun k => (portset_Eval.f k a b).bind fun t => (some (inB t n)).bind fun u => if (u == decide (n ≤ 65535)) = true then (intrusionlaw08_awake.f k).bind fun t => some t else some false) true := fun hs hb hn => by
      have := mem_end a b n h1 h2 (decide (n ≤ 65535)) (by
        rw [decide_eq_true_eq]
        unfold evP
        constructor
        · intro h
          exact ⟨hs.resolve_right (fun h' => h' ⟨hn, h⟩), hb.resolve_right (fun h' => h' ⟨hn, h⟩), hn, h⟩
        · exact fun h => h.2.2.2) (fun k t u => if (u == decide (n ≤ 65535)) = true then (intrusionlaw08_awake.f k).bind fun t => some t else some false) (fun k r => if_pos (by simp))
      simpa only [contains_eq] using this
    have inOr : ∀ l : List Sn, inB l n = true → SM l n := fun l h => ((inB_iff l n).1 h).1
    have inNo : ∀ l : List Sn, ¬ inB l n = true → ¬ SM l n ∨ ¬ (0 ≤ n ∧ n ≤ 65535) := fun l h => by
      by_cases hr : 0 ≤ n ∧ n ≤ 65535
      · exact .inl (fun hs => h ((inB_dec l n hr.1 hr.2).2 hs))
      · exact .inr hr
    by_cases he : a = []
    · refine Ev.congr (fun k => if_pos (by rw [he]; rfl)) ?_
      by_cases hb : inB b n = true
      · refine Ev.congr (fun k => if_pos hb) (hNot (fun h => h.2.1 (inOr b hb)))
      · refine Ev.congr (fun k => if_neg hb) ?_
        by_cases hn : n ≥ 0
        · exact Ev.congr (fun k => if_pos hn) (hGe (.inl (.inl he)) (inNo b hb) hn)
        · exact Ev.congr (fun k => if_neg hn) (hNot (fun h => hn h.2.2.1))
    · refine Ev.congr (fun k => if_neg (by have := List.length_pos_iff.2 he; omega)) ?_
      by_cases hm : inB a n = true
      · refine Ev.congr (fun k => if_pos hm) ?_
        by_cases hb : inB b n = true
        · refine Ev.congr (fun k => if_pos hb) (hNot (fun h => h.2.1 (inOr b hb)))
        · refine Ev.congr (fun k => if_neg hb) ?_
          by_cases hn : n ≥ 0
          · exact Ev.congr (fun k => if_pos hn) (hGe (.inl (.inr (inOr a hm))) (inNo b hb) hn)
          · exact Ev.congr (fun k => if_neg hn) (hNot (fun h => hn h.2.2.1))
      · refine Ev.congr (fun k => if_neg hm) (hNot (fun h => ?_))
        rcases inNo a hm with h' | h'
        · rcases h.1 with h1 | h1
          · exact he h1
          · exact h' h1
        · exact h' h.2.2
  · refine Ev.step (fun k => ?_) then_awake
    rw [intrusionlaw08_PortsetMembers.j0, if_pos rfl]
theorem PortsetMembers : ∀ (l0 : List (S33)) (l1 : List (S33)) (a2 : Int), l0.length ≤ maxLen → (∀ x ∈ l0, q33 x) → l1.length ≤ maxLen → (∀ x ∈ l1, q33 x) → (Lit.int .i64 a2).wf = true → ∃ k, intrusionlaw08_PortsetMembers.f k l0 l1 a2 = some true := by
  intro l0 l1 n _ _ _ _ _
  refine Ev.rounds (g := fun k => intrusionlaw08_PortsetMembers.f k l0 l1 n) ?_
  unfold intrusionlaw08_PortsetMembers.f
  simp only [large_ev, Option.bind_some]
  by_cases h : (l0.length : Int) > 60
  · exact Ev.congr (fun k => if_pos (decide_eq_true h)) (members_j l0 l1 n true (fun h => by cases h))
  · refine Ev.congr (fun k => if_neg (by rw [decide_eq_true_eq]; exact h)) (members_j l0 l1 n _ (fun h2 => ?_))
    rw [decide_eq_false_iff_not] at h2
    omega
end Go.Proofs.YtbimdjciacnioaaDoor.Pure
end

section
set_option linter.unusedVariables false
namespace Go.Proofs.YtbimdjciacnioaaDoor.Q
open Go.RowKit
theorem returns_laid {H : Type} {enc : TypeId × Value → H} {a : Assume} {C : Checked} {os : Os} {f : FuncId} {fn : Func} {s : ChangeSpec} {conds : List PathCond} {apart fresh handsOn again : Bool} {X : World → Array Value → Prop}
    (hX : ∀ (w w' : World) (args : Array Value), w.heap = w'.heap → X w args → X w' args)
    (own : ownKnob C.prog.godebug = none) (started : os.Started) (noInit : C.prog.inits.idxOf? f = none) (hfn : C.prog.funcs[f]? = some fn)
    (witness : ∃ (w : World) (tape : Tape) (i : Input), w.os = os ∧ (w.forCall tape i).Shaped C.prog ∧ i.vars = [] ∧ Input.okWide C.prog (w.forCall tape i) .any w.heap.size f i ∧
      ((s.pre enc C.prog fn conds apart (w.forCall tape i).memory i.args ∧ X (w.forCall tape i).memory i.args) ∧ sizedMet enc C.prog fn (OpenSpec.ofChange s) apart (w.forCall tape i).memory i.args) ∧ a.holds C.prog (lone (Frame.enter C.prog f i.args .normal) [] (w.forCall tape i)))
    (contract : ∀ (W : World) (base : Nat) (args : Array Value) (ds gs : List (DataW H)) (before : List MemPlace),
      (∀ (j : Nat) t v, fn.params[j]? = some t → args[j]? = some v → Value.okWide C.prog W .any base t v) →
      DataW.Whole enc C.prog fn.params.toList s.vars apart W args.toList ds gs before →
      conds.all (PathCond.test C.prog ⟨fn.params.toList, ds, s.plain.varTypes C.prog, gs⟩) = true →
      (DataW.weightsEach C.prog (fn.params.toList ++ s.plain.varTypes C.prog) (ds ++ gs)).all (· ≤ reachBytes) = true → X W args → W.ShapedOpen C.prog →
      a.holds C.prog (lone (Frame.enter C.prog f args .normal) [] W) →
      Calls C.prog f args W fun e W' => ∃ v, e = .returned v ∧ s.post enc C.prog fn apart fresh handsOn again W args v W') :
    ReturnsInHanded a C os f .any (fun w args => (s.pre enc C.prog fn conds apart w args ∧ X w args) ∧ sizedMet enc C.prog fn (OpenSpec.ofChange s) apart w args) (s.post enc C.prog fn apart fresh handsOn again) := by
  refine returnsInHanded_of_calls own started noInit witness ?_
  intro w tape i _ hsh _ hok hpre hholds
  obtain ⟨_, _, _, fn', hfn', _, _, _, _, hval⟩ := hok
  have e : fn' = fn := Option.some.inj (hfn'.symm.trans hfn)
  subst e
  obtain ⟨⟨⟨ds, gs, before, hw, hc⟩, hx⟩, hz⟩ := hpre
  have hw' := DataW.Whole.of_heap (w' := w.forCall tape i) (by rfl) hw
  refine (contract (w.forCall tape i) w.heap.size i.args ds gs before hval hw' hc (hz.weights hw) (hX _ _ _ (by rfl) hx) hsh hholds).mono fun e W' ⟨v, he, hp⟩ => ?_
  subst he
  exact ChangeSpec.post_blind hp
theorem laidVars_at {P : Program} {W : World} : ∀ {laid : List (String × DataW Unit)} {ps : List MemPlace}, DataW.LaidVars P W laid ps → ∀ (i : Nat) (n : String) (d : DataW Unit), laid[i]? = some (n, d) →
    ∃ g t cs fuel p, P.globalNamed n = some g ∧ (P.globals[g]?).map (·.type) = some t ∧ W.var? P n = some cs ∧ DataW.trod (fun _ => ()) P W 0 (fun _ => true) false fuel t cs.toList = some (d, p)
  | [], _, _, i, _, _, h => by simp at h
  | (m, c) :: r, ps, h, i, n, d, hi => by
    obtain ⟨g, t, cs, fuel, p, q, h1, h2, h3, h4, h5, _⟩ := h
    cases i with
    | zero =>
      simp only [List.getElem?_cons_zero, Option.some.injEq, Prod.mk.injEq] at hi
      obtain ⟨rfl, rfl⟩ := hi
      exact ⟨g, t, cs, fuel, p, h1, h2, h3, h4⟩
    | succ j => exact laidVars_at h5 j n d (by simpa using hi)
theorem tabIs_at {P : Program} {W : World} {laid : List (String × DataW Unit)} {name : String} {k : IntKind} {zs : List Int} {g : Nat} {t e : TypeId} {n : Nat} (i : Nat) (hi : laid[i]? = some (name, Lib.tabData k zs))
    (hg : P.globalNamed name = some g) (hty : (P.globals[g]?).map (·.type) = some t) (ht : P.underlying t = some (.array n e)) (he : P.underlying e = some (.int k)) (hce : P.cellsOf e = 1) (hct : P.cellsOf t = n)
    (h : laidMet P laid W) : Lib.TabIs P W name k zs := by
  obtain ⟨ps, h, _⟩ := h
  obtain ⟨g', t', cs, fuel, p, hg', ht', hvar, hd⟩ := laidVars_at h i _ _ hi
  obtain rfl := Option.some.inj (hg.symm.trans hg')
  obtain rfl := Option.some.inj (hty.symm.trans ht')
  unfold Lib.TabIs
  rw [hvar, ← Lib.cells_of_tab ht he hce hct hd]
def laidL : List (String × DataW Unit) := [("math/bits.deBruijn32tab", Rows.laid_math_bits_deBruijn32tab), ("math/bits.deBruijn64tab", Rows.laid_math_bits_deBruijn64tab), ("internal/strconv.uint64pow10", Rows.laid_internal_strconv_uint64pow10), ("unicode/utf8.acceptRanges", Rows.laid_unicode_utf8_acceptRanges), ("unicode/utf8.first", Rows.laid_unicode_utf8_first)]
theorem wok_of {W : World} (h : laidMetH Tryd.prog laidL W) (hs : W.ShapedOpen Tryd.prog) : WOK W := by
  rw [MakeChecks.laidMetH_plain _ _ _ (by kernel_rfl)] at h
  refine ⟨?_, ?_, ?_⟩
  · exact cell_of_shapedOpen_int (t := 3) (zero := #[.int .i64 0]) hs (by decide +kernel) (by kernel_rfl) (by kernel_rfl) (by kernel_rfl) (by kernel_rfl) Tryd.underlying3
  · exact tabIs_at (g := 1) (n := 20) 2 (by rfl) (by kernel_rfl) (t := 110) (by kernel_rfl) (by kernel_rfl) (e := 88) Tryd.underlying88 (by kernel_rfl) (by kernel_rfl) h
  · have hb : Lib.TabIs Tryd.prog W "math/bits.deBruijn64tab" .u8 (Lib.deBruijn64tab.map Int.ofNat) := tabIs_at (g := 5) (n := 64) 1 (by rfl) (by kernel_rfl) (t := 126) (by kernel_rfl) (by kernel_rfl) (e := 5) Tryd.underlying5 (by kernel_rfl) (by kernel_rfl) h
    intro j hj
    have h2 := hb.cell (g := 5) (by kernel_rfl) j (by rw [List.length_map]; exact hj)
    rw [h2, List.getD, List.getD, List.getElem?_map, List.getElem?_eq_getElem hj]
    rfl
set_option maxRecDepth 100000 in
theorem laid_world (os : Os) (args : Array Value) : laidMetH Tryd.prog laidL ((World.laidAll Tryd.prog os laidL).forCall (fun _ _ => 0) ⟨#[], args, []⟩).memory := by
  rw [MakeChecks.laidMetH_plain _ _ _ (by kernel_rfl)]
  exact laidMet_laidAll _ (by kernel_rfl) (by kernel_rfl)
end Go.Proofs.YtbimdjciacnioaaDoor.Q
end

section
namespace Go.Proofs.YtbimdjciacnioaaDoor.portsetMembers
open Go.ChangeShapes Go.WideShapes Go.ChangeAt Go.RowKit Go.Proofs.YtbimdjciacnioaaDoorW.PrintWords Go.Proofs.YtbimdjciacnioaaDoor.Read Go.Proofs.YtbimdjciacnioaaDoor.Q
open Go.ChangeMaps (open_string shut_string)
set_option linter.unusedVariables false
theorem own : ownKnob Tryd.prog.godebug = none := by kernel_rfl
theorem laidOut : laidOutB Tryd.prog = true := by kernel_rfl
set_option maxRecDepth 100000 in
theorem lifted (os : Os) (started : os.Started) (H : Type) (enc : TypeId × Value → H) :
    ReturnsInHanded {} Tryd.checked os 8 .any (fun w args => (Rows.portsetMembersSpec.pre enc Tryd.prog Tryd.f8 Rows.portsetMembersRow.domain false w args ∧ laidMetH Tryd.prog laidL w) ∧ sizedMet enc Tryd.prog Tryd.f8 (OpenSpec.ofChange Rows.portsetMembersSpec) false w args) (Rows.portsetMembersSpec.post enc Tryd.prog Tryd.f8 false true false false) := by
  refine returns_laid (C := Tryd.checked) (X := (fun w _ => laidMetH Tryd.prog laidL w)) (fun _ _ _ hh h => h.of_heap hh) own started (by kernel_rfl) Tryd.func8
    (ChangeSpec.witness_shaped (enc := enc) (C := Tryd.checked) (os := os) (X := (fun w _ => laidMetH Tryd.prog laidL w)) false (World.laidAll Tryd.prog os laidL) #[.slice none 0 0, .slice none 0 0, .int .i64 0] 8 (World.laidAll_os _ _ _)
      (World.shaped_of_ZipB (by kernel_rfl) (by kernel_rfl)) (by kernel_rfl) (by kernel_rfl) (by kernel_rfl) (laid_world os _)) ?_
  intro W base args ds gs before hval0 hW hcnd hsz0 hL hsh _
  have hWok := wok_of hL hsh
  have hsz : (DataW.weightsEach Tryd.prog (Tryd.f8.params.toList ++ Rows.portsetMembersSpec.plain.varTypes Tryd.prog) (ds ++ gs)).all (· ≤ reachBytes) = true := hsz0
  have hval : ∀ (j : Nat) t v, Tryd.f8.params[j]? = some t → args[j]? = some v → Value.okWide Tryd.prog W .any base t v := hval0
  have hW' := hW
  obtain ⟨p, q, hA0, hV, rfl, hfz, hnd⟩ := hW
  have hA : DataW.TrodAll enc Tryd.prog W 0 (fun _ => true) true Tryd.f8.params.toList args.toList ds p := hA0
  rw [Tryd.params8] at hA hval hsz
  obtain ⟨v0, vs0, d0, ds0, p0, q0, hargs, rfl, rfl, h0, r0⟩ := trodAll_cons hA
  obtain ⟨v1, vs1, d1, ds1, p1, q1, rfl, rfl, rfl, h1, r1⟩ := trodAll_cons r0
  obtain ⟨v2, vs2, d2, ds2, p2, q2, rfl, rfl, rfl, h2, r2⟩ := trodAll_cons r1
  obtain ⟨rfl, rfl, rfl⟩ := trodAll_nil r2
  obtain rfl : args = #[v0, v1, v2] := by cases args; simp_all
  obtain ⟨rfl, rfl⟩ := trodVars_none hV
  obtain ⟨a0, len0, cap0, rfl⟩ := okWide_slice Tryd.underlying23 (hval 0 23 v0 rfl rfl)
  have k0_ := h0
  have lt0 : ∀ x ∈ p0, x.block < W.heap.size := by obtain ⟨m, hm⟩ := k0_; exact DataW.trod_lt m _ _ _ hm
  obtain ⟨fuel0, hf0⟩ := h0
  obtain ⟨l0, ⟨A0, c0, hcs0, hle0, hC0⟩, hm0, hq0⟩ := (reads_slice Tryd.underlying23 (by kernel_rfl) (reads_k33 W) : Reads Tryd.prog W (Kd.slice 33 k33) _ 23) H enc fuel0 _ _ hf0
  simp [Value.cells] at hcs0
  obtain ⟨rfl, rfl, rfl⟩ := hcs0
  obtain ⟨a1, len1, cap1, rfl⟩ := okWide_slice Tryd.underlying23 (hval 1 23 v1 rfl rfl)
  have k1_ := h1
  have lt1 : ∀ x ∈ p1, x.block < W.heap.size := by obtain ⟨m, hm⟩ := k1_; exact DataW.trod_lt m _ _ _ hm
  obtain ⟨fuel1, hf1⟩ := h1
  obtain ⟨l1, ⟨A1, c1, hcs1, hle1, hC1⟩, hm1, hq1⟩ := (reads_slice Tryd.underlying23 (by kernel_rfl) (reads_k33 W) : Reads Tryd.prog W (Kd.slice 33 k33) _ 23) H enc fuel1 _ _ hf1
  simp [Value.cells] at hcs1
  obtain ⟨rfl, rfl, rfl⟩ := hcs1
  obtain ⟨a2, rfl, rfl, rfl, w2⟩ := open_int Tryd.underlying3 (hval 2 3 v2 rfl rfl) h2
  clear hA0 hval0 hsz0 hsz
  obtain ⟨k, hk⟩ := Pure.PortsetMembers l0 l1 a2 hm0 hq0 hm1 hq1 w2
  refine (intrusionlaw08_PortsetMembers.calls k _ _ l0 _ _ l1 a2 true W hC0 hle0 hC1 hle1 hk hWok).mono fun e W' he => ?_
  obtain ⟨rfl, bel⟩ := he
  exact ⟨_, rfl, _, _, _, [], _, [], hW', trodAll_mk1 (shut_bool Tryd.underlying4 _), (trodAll_cons_mk (Below.trod laidOut (by kernel_rfl) (of_decide_eq_true (by kernel_rfl)) k0_ bel lt0) (trodAll_cons_mk (Below.trod laidOut (by kernel_rfl) (of_decide_eq_true (by kernel_rfl)) k1_ bel lt1) (trodAll_cons_mk (shut_int Tryd.underlying3 w2) trodAll_mk0))), rfl, bel.frame _, fun h => by cases h⟩
theorem over : Rows.portsetMembersRow.holds Tryd.pinned (OpenSpec.ofChange Rows.portsetMembersSpec) :=
  OpenClaim.holds_of_wide 8 Tryd.f8 rfl rfl rfl rfl rfl rfl rfl ⟨rfl, rfl, rfl, rfl, rfl⟩ rfl rfl rfl rfl rfl (by kernel_rfl) Tryd.func8 (by kernel_rfl)
    (of_decide_eq_true (by kernel_rfl)) (by unfold Func.isWrapper; first | (rw [if_pos (by decide +kernel)]; kernel_rfl) | (rw [if_neg (by decide +kernel)]; exact ⟨rfl, rfl⟩))
    (fun os started H enc _ => lifted os started H enc)
theorem card : Rows.PortsetMembersCardSaid :=
  Claim7.holds_tied_plain_at .later [] [.data, .data, .data, .data, .pinned] true (true, "9aa0131f247035a0e78f96f5864c7c2e57b9ec42f65bc66587a77ae73f0f15cc") false over (fun _ h => by cases h) (by kernel_rfl) (fun _ h => by cases h) portsetMembers_row_tie rfl ⟨rfl, rfl⟩ (by kernel_rfl) rfl
    (fun f fn hf hfn => by
      obtain rfl : f = 8 := Option.some.inj ((show Tryd.prog.funcNamed "intrusion/intrusionlaw08.PortsetMembers" = some 8 by kernel_rfl).symm.trans hf) |>.symm
      obtain rfl : fn = Tryd.f8 := (Option.some.inj (Tryd.func8.symm.trans hfn)).symm
      exact ⟨by kernel_rfl, fun j t ht => by
        rw [Tryd.params8] at ht
        have hm : t ∈ [23, 23, 3] := by simpa using Array.mem_of_getElem? ht
        have hall : ([23, 23, 3].all fun u => !Tryd.prog.wantsStandIn u) = true := by kernel_rfl
        exact (show Tryd.prog.wantsStandIn t = false by simpa using List.all_eq_true.1 hall t hm)⟩)
    (by kernel_rfl)
#print axioms card
end Go.Proofs.YtbimdjciacnioaaDoor.portsetMembers
namespace Go.Proofs.YtbimdjciacnioaaDoor
theorem portsetMembers_holds : Rows.PortsetMembersCardSaid := portsetMembers.card
end Go.Proofs.YtbimdjciacnioaaDoor
end
