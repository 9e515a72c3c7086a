/- The law AddrsetAlgebra answers true for every input and leaves its arguments as they were. No condition. (Part 5 of 5: the kit's printed words and walks, hand-made contracts and plain laws, joined in build order, without what the theorem does not reach.) -/
import Derived.IntWalk
import Derived.Test.YtcgfpffgiimgmaaRows
import Derived.WalkKit
import Derived.ProofKit
import Derived.OpenShut
import Derived.ShutString
import Derived.ChangeOld
import Derived.Below
import Derived.SizedLaws
import Derived.Carry
import Derived.Test.YtcgfpffgiimgmaaGAddrsetAlgebra4
section
namespace Go.Proofs.Ytcgfpffgiimgmaa.Q
open Go.RowKit Go.Proofs.YtcgfpffgiimgmaaW.PrintWords Go.Proofs.YtcgfpffgiimgmaaW.PrintLast Go.Proofs.YtcgfpffgiimgmaaW.PrintMore
attribute [local go_sem] max2_int min2_int max_two min_two max_three min_three max_four min_four
set_option linter.unusedVariables false
set_option linter.unusedSimpArgs false
def intrusionref07_Before.f (a0_0 : Bool) (a0_1 : Int) (a0_2 : Int) (a1_0 : Bool) (a1_1 : Int) (a1_2 : Int) : Option (Bool) := if (a0_0 != a1_0) = true then (some a1_0) else (if a0_1 = a1_1 then (some (decide (a0_2 < a1_2))) else (some (decide (a0_1 < a1_1))))
end Go.Proofs.Ytcgfpffgiimgmaa.Q
end

section
namespace Go.Proofs.Ytcgfpffgiimgmaa.Q
open Go.RowKit Go.Proofs.YtcgfpffgiimgmaaW.PrintWords Go.Proofs.YtcgfpffgiimgmaaW.PrintLast Go.Proofs.YtcgfpffgiimgmaaW.PrintMore
attribute [local go_sem] max2_int min2_int max_two min_two max_three min_three max_four min_four
set_option linter.unusedVariables false
set_option linter.unusedSimpArgs false
def intrusionref07_Last.f (a0_0 : Bool) (a0_1 : Int) (a0_2 : Int) : Option (Bool) := if a0_0 = true then (if (IntKind.u64.wrap (a0_1 + 1)) = 0 then (some ((IntKind.u64.wrap (a0_2 + 1)) == 0)) else (some false)) else (some (a0_2 == 4294967295))
end Go.Proofs.Ytcgfpffgiimgmaa.Q
end

section
namespace Go.Proofs.Ytcgfpffgiimgmaa.Q
open Go.RowKit Go.Proofs.YtcgfpffgiimgmaaW.PrintWords Go.Proofs.YtcgfpffgiimgmaaW.PrintLast Go.Proofs.YtcgfpffgiimgmaaW.PrintMore
attribute [local go_sem] max2_int min2_int max_two min_two max_three min_three max_four min_four
set_option linter.unusedVariables false
set_option linter.unusedSimpArgs false
attribute [local go_sem high] eqA36
def intrusionref07_joined.f (a0_0 : Bool) (a0_1 : Int) (a0_2 : Int) (a0_3 : Bool) (a0_4 : Int) (a0_5 : Int) (a1_0 : Bool) (a1_1 : Int) (a1_2 : Int) (a1_3 : Bool) (a1_4 : Int) (a1_5 : Int) : Option (Bool) := if (a0_0 != a1_0) = true then (some false) else ((intrusionref07_Before.f a0_3 a0_4 a0_5 a1_0 a1_1 a1_2).bind fun t606 => (if t606 = true then ((intrusionref07_Last.f a0_3 a0_4 a0_5).bind fun t607 => (if t607 = true then (some false) else ((intrusionref07_After.f a0_3 a0_4 a0_5).bind fun bt608 => (some (bt608.1 == a1_0 && (bt608.2.1 == a1_1 && (bt608.2.2 == a1_2))))))) else (some true)))
end Go.Proofs.Ytcgfpffgiimgmaa.Q
end

section
namespace Go.Proofs.Ytcgfpffgiimgmaa.Q
open Go.RowKit Go.Proofs.YtcgfpffgiimgmaaW.PrintWords Go.Proofs.YtcgfpffgiimgmaaW.PrintLast Go.Proofs.YtcgfpffgiimgmaaW.PrintMore
attribute [local go_sem] max2_int min2_int max_two min_two max_three min_three max_four min_four
set_option linter.unusedVariables false
set_option linter.unusedSimpArgs false
def intrusionref07_Fine.f (a0_0 : Bool) (a0_1 : Int) (a0_2 : Int) : Option (Bool) := if a0_0 = true then (some true) else (if a0_1 = 0 then (some (decide (a0_2 < 4294967296))) else (some false))
end Go.Proofs.Ytcgfpffgiimgmaa.Q
end

section
namespace Go.Proofs.Ytcgfpffgiimgmaa.Q
open Go.RowKit Go.Proofs.YtcgfpffgiimgmaaW.PrintWords Go.Proofs.YtcgfpffgiimgmaaW.PrintLast Go.Proofs.YtcgfpffgiimgmaaW.PrintMore
attribute [local go_sem] max2_int min2_int max_two min_two max_three min_three max_four min_four
set_option linter.unusedVariables false
set_option linter.unusedSimpArgs false
def intrusionref07_Some.f (a0_0 : Bool) (a0_1 : Int) (a0_2 : Int) (a0_3 : Bool) (a0_4 : Int) (a0_5 : Int) : Option (Bool) := (intrusionref07_Fine.f a0_0 a0_1 a0_2).bind fun t600 => (if t600 = true then ((intrusionref07_Fine.f a0_3 a0_4 a0_5).bind fun t601 => (if t601 = true then (if (a0_0 == a0_3) = true then ((intrusionref07_Before.f a0_3 a0_4 a0_5 a0_0 a0_1 a0_2).bind fun t602 => (some (!t602))) else (some false)) else (some false))) else (some false))
end Go.Proofs.Ytcgfpffgiimgmaa.Q
end

section
set_option linter.unusedVariables false
set_option linter.unusedSimpArgs false
namespace Go.Proofs.Ytcgfpffgiimgmaa.Q
open Go.RowKit Go.Proofs.YtcgfpffgiimgmaaW.PrintWords Go.Proofs.YtcgfpffgiimgmaaW.PrintLast Go.Proofs.YtcgfpffgiimgmaaW.PrintMore Go.Proofs.Ytcgfpffgiimgmaa.Canon
abbrev Ad := S36
abbrev Rg := S66
abbrev Px := S45
def AW (a : Ad) : Prop := 0 ≤ a.f1 ∧ a.f1 < 18446744073709551616 ∧ 0 ≤ a.f2 ∧ a.f2 < 18446744073709551616
def av (a : Ad) : Int := (if a.f0 = true then 680564733841876926926749214863536422912 else 0) + a.f1 * 18446744073709551616 + a.f2
def AF (a : Ad) : Prop := AW a ∧ (a.f0 = true ∨ (a.f1 = 0 ∧ a.f2 ≤ 4294967295))
def RW (r : Rg) : Prop := AF r.f0 ∧ AF r.f1 ∧ r.f0.f0 = r.f1.f0 ∧ av r.f0 ≤ av r.f1
def RB (r : Rg) : Prop := AW r.f0 ∧ AW r.f1
theorem RW.b {r : Rg} (h : RW r) : RB r := ⟨h.1.1, h.2.1.1⟩
theorem wf_u64 {n : Int} (h : (Lit.int .u64 n).wf = true) : 0 ≤ n ∧ n < 18446744073709551616 := by
  simp only [Lit.wf, Bool.and_eq_true, decide_eq_true_eq] at h
  have e1 : IntKind.u64.min = 0 := by decide
  have e2 : IntKind.u64.max = 18446744073709551615 := by decide
  rw [e1, e2] at h
  omega
theorem aw_of {a : Ad} (h : q36 a) : AW a := by
  obtain ⟨_, h1, h2⟩ := h
  have := wf_u64 h1
  have := wf_u64 h2
  exact ⟨by omega, by omega, by omega, by omega⟩
theorem rb_of {r : Rg} (h : q66 r) : RB r := ⟨aw_of h.1, aw_of h.2⟩
theorem av_inj {a b : Ad} (ha : AW a) (hb : AW b) (h : av a = av b) : a = b := by
  obtain ⟨a0, a1, a2⟩ := a
  obtain ⟨b0, b1, b2⟩ := b
  unfold AW at ha hb
  unfold av at h
  cases a0 <;> cases b0 <;> simp at h ha hb ⊢ <;> omega
theorem av_eq {a b : Ad} (ha : AW a) (hb : AW b) : a = b ↔ av a = av b := ⟨fun h => by rw [h], av_inj ha hb⟩
theorem ltA_iff {a b : Ad} (ha : AW a) (hb : AW b) : ltA a b ↔ av a < av b := by
  obtain ⟨a0, a1, a2⟩ := a
  obtain ⟨b0, b1, b2⟩ := b
  unfold AW at ha hb
  unfold ltA av
  cases a0 <;> cases b0 <;> simp at ha hb ⊢ <;> omega
theorem cmpA_tri (a b : Ad) : cmpA a b = 0 ∨ cmpA a b = -1 ∨ cmpA a b = 1 := by
  unfold cmpA
  repeat' split
  all_goals simp
theorem cmpA_zero {a b : Ad} : cmpA a b = 0 ↔ a = b := by
  obtain ⟨a0, a1, a2⟩ := a
  obtain ⟨b0, b1, b2⟩ := b
  unfold cmpA
  simp only [Ad, S36.mk.injEq]
  by_cases h0 : a0 = b0
  · by_cases h1 : a1 = b1
    · by_cases h2 : a2 = b2
      · simp [h0, h1, h2]
      · simp only [h0, h1, h2, if_true, if_false]
        split <;> simp
    · simp only [h0, h1, if_true, if_false]
      split <;> simp
  · simp only [h0, if_false]
    split <;> simp
theorem cmp_lt' {a b : Ad} (ha : AW a) (hb : AW b) : cmpA a b < 0 ↔ av a < av b := (cmp_lt a b).trans (ltA_iff ha hb)
theorem cmp_le' {a b : Ad} (ha : AW a) (hb : AW b) : cmpA a b ≤ 0 ↔ av a ≤ av b := by
  have h1 := cmp_lt' ha hb
  have h2 := @cmpA_zero a b
  rw [av_eq ha hb] at h2
  rcases cmpA_tri a b with h | h | h <;> omega
theorem cmp_ge' {a b : Ad} (ha : AW a) (hb : AW b) : 0 ≤ cmpA a b ↔ av b ≤ av a := by
  have h1 := cmp_lt' ha hb
  omega
theorem fine_iff {a : Ad} (ha : AW a) : fineB a = true ↔ AF a := by
  unfold fineB AF
  simp only [Bool.or_eq_true, Bool.and_eq_true, decide_eq_true_eq]
  exact ⟨fun h => ⟨ha, h⟩, fun h => h.2⟩
theorem some_iff {r : Rg} (h : RB r) : someB r = true ↔ RW r := by
  unfold someB RW
  simp only [Bool.and_eq_true, fine_iff h.1, fine_iff h.2, beq_iff_eq, decide_eq_true_eq, cmp_le' h.1 h.2]
theorem AF.num {a : Ad} (h : AF a) : (a.f0 = false ∧ 0 ≤ av a ∧ av a ≤ 4294967295) ∨ (a.f0 = true ∧ 680564733841876926926749214863536422912 ≤ av a ∧ av a < 1020847100762815390390123822295304634368) := by
  obtain ⟨⟨h1, h2, h3, h4⟩, h5⟩ := h
  obtain ⟨a0, a1, a2⟩ := a
  unfold av
  cases a0 <;> simp at h1 h2 h3 h4 h5 ⊢ <;> omega
theorem RW.num {r : Rg} (h : RW r) : 0 ≤ av r.f0 ∧ av r.f0 ≤ av r.f1 ∧ ((r.f0.f0 = false ∧ r.f1.f0 = false ∧ av r.f1 ≤ 4294967295) ∨ (r.f0.f0 = true ∧ r.f1.f0 = true ∧ 680564733841876926926749214863536422912 ≤ av r.f0 ∧ av r.f1 < 1020847100762815390390123822295304634368)) := by
  obtain ⟨h1, h2, h3, h4⟩ := h
  rcases h1.num with n1 | n1 <;> rcases h2.num with n2 | n2
  · exact ⟨n1.2.1, h4, .inl ⟨n1.1, n2.1, n2.2.2⟩⟩
  · rw [n1.1, n2.1] at h3; cases h3
  · rw [n1.1, n2.1] at h3; cases h3
  · exact ⟨by omega, h4, .inr ⟨n1.1, n2.1, n1.2.1, n2.2.2⟩⟩
theorem before_eq (a b : Ad) (ha : AW a) (hb : AW b) : intrusionref07_Before.f a.f0 a.f1 a.f2 b.f0 b.f1 b.f2 = some (decide (av a < av b)) := by
  obtain ⟨a0, a1, a2⟩ := a
  obtain ⟨b0, b1, b2⟩ := b
  unfold AW at ha hb
  unfold intrusionref07_Before.f av
  cases a0 <;> cases b0 <;> simp at ha hb ⊢
  · by_cases h : a1 = b1
    · simp [h]
    · simp only [h, if_false, Option.some.injEq, decide_eq_decide]; omega
  · omega
  · omega
  · by_cases h : a1 = b1
    · simp [h]
    · simp only [h, if_false, Option.some.injEq, decide_eq_decide]; omega
theorem rfine_eq (a : Ad) (ha : AW a) : intrusionref07_Fine.f a.f0 a.f1 a.f2 = some (fineB a) := by
  unfold intrusionref07_Fine.f fineB
  cases a.f0
  · by_cases h : a.f1 = 0
    · simp [h]; omega
    · simp [h]
  · simp
theorem rsome_eq (r : Rg) (h : RB r) : intrusionref07_Some.f r.f0.f0 r.f0.f1 r.f0.f2 r.f1.f0 r.f1.f1 r.f1.f2 = some (someB r) := by
  unfold intrusionref07_Some.f someB
  rw [rfine_eq r.f0 h.1, rfine_eq r.f1 h.2]
  simp only [Option.bind_some]
  rw [before_eq r.f1 r.f0 h.2 h.1]
  have e : decide (cmpA r.f0 r.f1 ≤ 0) = !decide (av r.f1 < av r.f0) := by
    rw [Bool.eq_iff_iff, decide_eq_true_eq, cmp_le' h.1 h.2]
    simp
  rw [e]
  cases fineB r.f0 <;> cases fineB r.f1 <;> cases (r.f0.f0 == r.f1.f0) <;> simp
theorem cmp_f (a b : Ad) : address_Compare.f a.f0 a.f1 a.f2 b.f0 b.f1 b.f2 = some (cmpA a b) := rfl
theorem u64_id {n : Int} (h0 : 0 ≤ n) (h1 : n < 18446744073709551616) : IntKind.u64.wrap n = n := IntWalk.u64_in n ⟨h0, by omega⟩
instance decAd : DecidableEq Ad := fun a b => decidable_of_iff (a.f0 = b.f0 ∧ a.f1 = b.f1 ∧ a.f2 = b.f2) ⟨fun h => by cases a; cases b; simp at h; simp [h], fun h => by rw [h]; exact ⟨rfl, rfl, rfl⟩⟩
theorem u64_top : IntKind.u64.wrap 18446744073709551616 = 0 := by decide
def nextA (a : Ad) : Ad := ⟨a.f0, if IntKind.u64.wrap (a.f2 + 1) = 0 then IntKind.u64.wrap (a.f1 + 1) else a.f1, IntKind.u64.wrap (a.f2 + 1)⟩
def topA (f : Bool) : Ad := if f then ⟨true, 18446744073709551615, 18446744073709551615⟩ else ⟨false, 0, 4294967295⟩
theorem topA_AF (f : Bool) : AF (topA f) := by
  cases f
  · refine ⟨⟨?_, ?_, ?_, ?_⟩, .inr ⟨?_, ?_⟩⟩ <;> simp [topA]
  · refine ⟨⟨?_, ?_, ?_, ?_⟩, .inl ?_⟩ <;> simp [topA]
theorem topA_max {a : Ad} (h : AF a) : av a ≤ av (topA a.f0) := by
  rcases h.num with ⟨e, _, h2⟩ | ⟨e, _, h2⟩
  · rw [e]; exact h2
  · rw [e]; show av a ≤ _; unfold topA av at *; simp at *; omega
theorem nextA_spec {a : Ad} (h : AF a) (hn : a ≠ topA a.f0) : AF (nextA a) ∧ (nextA a).f0 = a.f0 ∧ av (nextA a) = av a + 1 := by
  have hlt : av a < av (topA a.f0) := by
    have h1 := topA_max h
    have h2 : av a ≠ av (topA a.f0) := fun e => hn (av_inj h.1 (topA_AF _).1 e)
    omega
  obtain ⟨⟨h1, h2, h3, h4⟩, h5⟩ := h
  obtain ⟨a0, a1, a2⟩ := a
  simp only at h1 h2 h3 h4 h5
  by_cases c : a2 + 1 = 18446744073709551616
  · have e1 : IntKind.u64.wrap (a2 + 1) = 0 := by rw [c]; exact u64_top
    cases a0
    · simp at h5; omega
    · have h6 : a1 + 1 < 18446744073709551616 := by unfold topA av at hlt; simp at hlt; omega
      have e2 := u64_id (n := a1 + 1) (by omega) h6
      unfold nextA
      simp only [e1, e2, if_true]
      refine ⟨⟨⟨by simp; omega, by simp; omega, by simp, by simp⟩, .inl rfl⟩, by simp, ?_⟩
      unfold av; simp; omega
  · have e1 := u64_id (n := a2 + 1) (by omega) (by omega)
    unfold nextA
    have e3 : ¬ (a2 + 1 = 0) := by omega
    simp only [e1, e3, if_false]
    refine ⟨⟨⟨h1, h2, by simp; omega, by simp; omega⟩, ?_⟩, by simp, by unfold av; simp; omega⟩
    cases a0
    · simp at h5
      refine .inr ⟨h5.1, ?_⟩
      unfold topA av at hlt; simp at hlt ⊢; omega
    · exact .inl rfl
theorem after_eq (a : Ad) : intrusionref07_After.f a.f0 a.f1 a.f2 = some ((nextA a).f0, (nextA a).f1, (nextA a).f2) := rfl
theorem last_eq (a : Ad) (h : AF a) : intrusionref07_Last.f a.f0 a.f1 a.f2 = some (decide (a = topA a.f0)) := by
  obtain ⟨⟨h1, h2, h3, h4⟩, h5⟩ := h
  obtain ⟨a0, a1, a2⟩ := a
  simp only at h1 h2 h3 h4 h5
  unfold intrusionref07_Last.f topA
  cases a0
  · simp at h5 ⊢
    rw [Bool.eq_iff_iff]
    simp [h5.1]
  · have w : ∀ n : Int, 0 ≤ n → n < 18446744073709551616 → (IntKind.u64.wrap (n + 1) = 0 ↔ n = 18446744073709551615) := by
      intro n g0 g1
      constructor
      · intro e
        by_cases c : n + 1 = 18446744073709551616
        · omega
        · rw [u64_id (by omega) (by omega)] at e; omega
      · intro e; subst e; exact u64_top
    simp only [if_true, w a1 h1 h2]
    by_cases c : a1 = 18446744073709551615
    · simp only [c, if_true, Option.some.injEq]
      rw [Bool.eq_iff_iff, beq_iff_eq, w a2 h3 h4]
      simp
    · simp [c]
theorem next_eq (a : Ad) (h : AF a) : address_Next.f a.f0 a.f1 a.f2 = some (if a = topA a.f0 then (false, 0, 0, false) else ((nextA a).f0, (nextA a).f1, (nextA a).f2, true)) := by
  obtain ⟨a0, a1, a2⟩ := a
  have e : address_last.f a0 = some ((topA a0).f0, (topA a0).f1, (topA a0).f2) := by cases a0 <;> rfl
  unfold address_Next.f
  rw [e]
  simp only [Option.bind_some]
  have e2 : (a0 == (topA a0).f0 && (a1 == (topA a0).f1 && (a2 == (topA a0).f2))) = decide ((⟨a0, a1, a2⟩ : Ad) = topA a0) := by
    rw [Bool.eq_iff_iff]
    simp only [Bool.and_eq_true, beq_iff_eq, decide_eq_true_eq]
    constructor
    · rintro ⟨h1, h2, h3⟩
      cases a0 <;> simp [topA] at * <;> simp [h2, h3]
    · intro h
      rw [← h]
      exact ⟨rfl, rfl, rfl⟩
  rw [e2]
  by_cases c : (⟨a0, a1, a2⟩ : Ad) = topA a0
  · rw [if_pos (decide_eq_true c), if_pos c]
  · rw [if_neg (by simpa using c), if_neg c]
    unfold nextA
    by_cases d : IntKind.u64.wrap (a2 + 1) = 0
    · simp [d]
    · simp [d]
def prevA (a : Ad) : Ad := ⟨a.f0, if a.f2 = 0 then IntKind.u64.wrap (a.f1 - 1) else a.f1, IntKind.u64.wrap (a.f2 - 1)⟩
theorem prevA_spec {a : Ad} (h : AF a) (hn : ¬ (a.f1 = 0 ∧ a.f2 = 0)) : AF (prevA a) ∧ (prevA a).f0 = a.f0 ∧ av (prevA a) = av a - 1 := by
  obtain ⟨⟨h1, h2, h3, h4⟩, h5⟩ := h
  obtain ⟨a0, a1, a2⟩ := a
  simp only at h1 h2 h3 h4 h5 hn
  by_cases c : a2 = 0
  · subst c
    have e1 : IntKind.u64.wrap (0 - 1) = 18446744073709551615 := by decide
    cases a0
    · simp at h5; omega
    · have e2 := u64_id (n := a1 - 1) (by omega) (by omega)
      unfold prevA
      simp only [e1, e2, if_true]
      refine ⟨⟨⟨by simp; omega, by simp; omega, by simp, by simp⟩, .inl rfl⟩, by simp, ?_⟩
      unfold av; simp; omega
  · have e1 := u64_id (n := a2 - 1) (by omega) (by omega)
    unfold prevA
    rw [e1]
    simp only [c, if_false]
    refine ⟨⟨⟨h1, h2, by simp; omega, by simp; omega⟩, ?_⟩, by simp, by unfold av; simp; omega⟩
    rcases h5 with h5 | h5
    · exact .inl h5
    · exact .inr ⟨h5.1, by simp; omega⟩
theorem prev_eq (a : Ad) (hn : ¬ (a.f1 = 0 ∧ a.f2 = 0)) : address_Previous.f a.f0 a.f1 a.f2 = some ((prevA a).f0, (prevA a).f1, (prevA a).f2, true) := by
  unfold address_Previous.f prevA
  have e : (a.f1 == 0 && (a.f2 == 0)) = false := by
    rw [← Bool.not_eq_true]
    simpa using hn
  rw [e]
  by_cases c : a.f2 = 0 <;> simp [c]
def nearP (a b : Rg) : Prop := a.f0.f0 = b.f0.f0 ∧ av b.f0 ≤ av a.f1 + 1
instance (a b : Rg) : Decidable (nearP a b) := by unfold nearP; infer_instance
theorem nearP_iff {a b : Rg} (ha : RW a) (hb : RW b) (h : av a.f0 ≤ av b.f0) : nearP a b ↔ av b.f0 ≤ av a.f1 + 1 := by
  unfold nearP
  refine ⟨fun h => h.2, fun h2 => ⟨?_, h2⟩⟩
  rcases ha.num with ⟨_, _, n1 | n1⟩ <;> rcases hb.num with ⟨_, _, n2 | n2⟩
  · rw [n1.1, n2.1]
  · omega
  · omega
  · rw [n1.1, n2.1]
theorem near_eq (a b : Rg) (ha : RW a) (hb : RW b) : addrset_near.f a.f0.f0 a.f0.f1 a.f0.f2 a.f1.f0 a.f1.f1 a.f1.f2 b.f0.f0 b.f0.f1 b.f0.f2 b.f1.f0 b.f1.f1 b.f1.f2 = some (decide (nearP a b)) := by
  unfold addrset_near.f nearP
  rw [next_eq a.f1 ha.2.1]
  by_cases c : a.f1.f0 = b.f0.f0
  · have c2 : a.f0.f0 = b.f0.f0 := ha.2.2.1.trans c
    simp only [c, bne_self_eq_false, Bool.false_eq_true, if_false, Option.bind_some, c2, true_and]
    by_cases d : a.f1 = topA a.f1.f0
    · have h1 := topA_max hb.1
      rw [← c, ← d] at h1
      have h3 : av b.f0 ≤ av a.f1 + 1 := by omega
      rw [← c, if_pos d]
      simp [h3]
    · obtain ⟨n1, n2, n3⟩ := nextA_spec ha.2.1 d
      rw [← c, if_neg d]
      simp only [if_true]
      rw [n2]
      simp only [bne_self_eq_false, Bool.false_eq_true, if_false]
      have e : address_Compare.f a.f1.f0 b.f0.f1 b.f0.f2 a.f1.f0 (nextA a.f1).f1 (nextA a.f1).f2 = some (cmpA b.f0 (nextA a.f1)) := by
        have := cmp_f b.f0 (nextA a.f1)
        rw [n2, ← c] at this
        exact this
      rw [e]
      simp only [Option.bind_some, Option.some.injEq, decide_eq_decide]
      rw [cmp_le' hb.1.1 n1.1, n3]
  · have c2 : ¬ a.f0.f0 = b.f0.f0 := fun e => c (ha.2.2.1.symm.trans e)
    simp [c, c2]
theorem joined_eq (a b : Rg) (ha : RW a) (hb : RW b) : intrusionref07_joined.f a.f0.f0 a.f0.f1 a.f0.f2 a.f1.f0 a.f1.f1 a.f1.f2 b.f0.f0 b.f0.f1 b.f0.f2 b.f1.f0 b.f1.f1 b.f1.f2 = some (decide (nearP a b)) := by
  unfold intrusionref07_joined.f nearP
  rw [before_eq a.f1 b.f0 ha.2.1.1 hb.1.1, last_eq a.f1 ha.2.1, after_eq a.f1]
  by_cases c : a.f0.f0 = b.f0.f0
  · have c2 : a.f1.f0 = b.f0.f0 := ha.2.2.1.symm.trans c
    simp only [c, bne_self_eq_false, Bool.false_eq_true, if_false, Option.bind_some, true_and]
    by_cases e : av a.f1 < av b.f0
    · simp only [e, decide_true, if_true]
      by_cases d : a.f1 = topA a.f1.f0
      · exfalso
        have h1 := topA_max hb.1
        rw [← c2, ← d] at h1
        omega
      · obtain ⟨n1, n2, n3⟩ := nextA_spec ha.2.1 d
        simp only [d, decide_false, Bool.false_eq_true, if_false, Option.some.injEq]
        rw [Bool.eq_iff_iff]
        simp only [Bool.and_eq_true, beq_iff_eq, decide_eq_true_eq]
        have h2 := av_eq n1.1 hb.1.1
        constructor
        · rintro ⟨g1, g2, g3⟩
          have : nextA a.f1 = b.f0 := by
            cases h : nextA a.f1
            cases h' : b.f0
            rw [h, h'] at g1 g2 g3
            simp only at g1 g2 g3
            rw [g1, g2, g3]
          have := h2.1 this
          omega
        · intro g
          have := h2.2 (by omega)
          rw [this]
          exact ⟨rfl, rfl, rfl⟩
    · simp only [e, decide_false, Bool.false_eq_true, if_false, Option.some.injEq]
      rw [eq_comm, decide_eq_true_eq]
      omega
  · simp [c]
end Go.Proofs.Ytcgfpffgiimgmaa.Q
end

section
namespace Go.Proofs.Ytcgfpffgiimgmaa.Q
open Go.RowKit Go.Proofs.YtcgfpffgiimgmaaW.PrintWords Go.Proofs.YtcgfpffgiimgmaaW.PrintLast Go.Proofs.YtcgfpffgiimgmaaW.PrintMore
attribute [local go_sem] max2_int min2_int max_two min_two max_three min_three max_four min_four
set_option linter.unusedVariables false
set_option linter.unusedSimpArgs false
mutual
def intrusionref07_add.l0 : Nat → List (S66) → List (S66) → Bool → Int → Bool → Int → Int → Bool → Int → Int → Option ((List (S66)))
  | 0, _, _, _, _, _, _, _, _, _, _ => none
  | k + 1, x0, x5, x6, x7, x612000, x612001, x612002, x612003, x612004, x612005 => if x7 < (x0.length : Int) then (if 0 ≤ x7 then (if x6 = true then (intrusionref07_add.j1 k x0 x5 x6 x7 true x612000 x612001 x612002 x612003 x612004 x612005 ((rd_T66 x0 x7).f0.f0) ((rd_T66 x0 x7).f0.f1) ((rd_T66 x0 x7).f0.f2) ((rd_T66 x0 x7).f1.f0) ((rd_T66 x0 x7).f1.f1) ((rd_T66 x0 x7).f1.f2)) else ((intrusionref07_Before.f ((rd_T66 x0 x7).f1.f0) ((rd_T66 x0 x7).f1.f1) ((rd_T66 x0 x7).f1.f2) x612000 x612001 x612002).bind fun t617 => (if t617 = true then ((intrusionref07_joined.f ((rd_T66 x0 x7).f0.f0) ((rd_T66 x0 x7).f0.f1) ((rd_T66 x0 x7).f0.f2) ((rd_T66 x0 x7).f1.f0) ((rd_T66 x0 x7).f1.f1) ((rd_T66 x0 x7).f1.f2) x612000 x612001 x612002 x612003 x612004 x612005).bind fun t618 => (intrusionref07_add.j1 k x0 x5 x6 x7 (!t618) x612000 x612001 x612002 x612003 x612004 x612005 ((rd_T66 x0 x7).f0.f0) ((rd_T66 x0 x7).f0.f1) ((rd_T66 x0 x7).f0.f2) ((rd_T66 x0 x7).f1.f0) ((rd_T66 x0 x7).f1.f1) ((rd_T66 x0 x7).f1.f2))) else (intrusionref07_add.j1 k x0 x5 x6 x7 false x612000 x612001 x612002 x612003 x612004 x612005 ((rd_T66 x0 x7).f0.f0) ((rd_T66 x0 x7).f0.f1) ((rd_T66 x0 x7).f0.f2) ((rd_T66 x0 x7).f1.f0) ((rd_T66 x0 x7).f1.f1) ((rd_T66 x0 x7).f1.f2))))) else (none)) else (if x6 = true then (some x5) else (if x5.length < 2932031007402 then (some (x5 ++ [(⟨(⟨x612000, x612001, x612002⟩ : S36), (⟨x612003, x612004, x612005⟩ : S36)⟩ : S66)])) else (none)))
def intrusionref07_add.j1 : Nat → List (S66) → List (S66) → Bool → Int → Bool → Bool → Int → Int → Bool → Int → Int → Bool → Int → Int → Bool → Int → Int → Option ((List (S66)))
  | 0, _, _, _, _, _, _, _, _, _, _, _, _, _, _, _, _, _ => none
  | k + 1, x0, x5, x6, x7, x32, x612000, x612001, x612002, x612003, x612004, x612005, x617000, x617001, x617002, x617003, x617004, x617005 => if x32 = true then (if x5.length < 2932031007402 then (intrusionref07_add.l0 k x0 (x5 ++ [(⟨(⟨x617000, x617001, x617002⟩ : S36), (⟨x617003, x617004, x617005⟩ : S36)⟩ : S66)]) x6 (wrap64 (x7 + 1)) x612000 x612001 x612002 x612003 x612004 x612005) else (none)) else ((intrusionref07_Before.f x612003 x612004 x612005 x617000 x617001 x617002).bind fun t622 => (if t622 = true then ((intrusionref07_joined.f x612000 x612001 x612002 x612003 x612004 x612005 x617000 x617001 x617002 x617003 x617004 x617005).bind fun t623 => (intrusionref07_add.j2 k x0 x5 x6 x7 (!t623) x612000 x612001 x612002 x612003 x612004 x612005 x617000 x617001 x617002 x617003 x617004 x617005)) else (intrusionref07_add.j2 k x0 x5 x6 x7 false x612000 x612001 x612002 x612003 x612004 x612005 x617000 x617001 x617002 x617003 x617004 x617005)))
def intrusionref07_add.j2 : Nat → List (S66) → List (S66) → Bool → Int → Bool → Bool → Int → Int → Bool → Int → Int → Bool → Int → Int → Bool → Int → Int → Option ((List (S66)))
  | 0, _, _, _, _, _, _, _, _, _, _, _, _, _, _, _, _, _ => none
  | k + 1, x0, x5, x6, x7, x47, x612000, x612001, x612002, x612003, x612004, x612005, x617000, x617001, x617002, x617003, x617004, x617005 => if x47 = true then ((some (([(⟨(⟨x612000, x612001, x612002⟩ : S36), (⟨x612003, x612004, x612005⟩ : S36)⟩ : S66), (⟨(⟨x617000, x617001, x617002⟩ : S36), (⟨x617003, x617004, x617005⟩ : S36)⟩ : S66)] : List (S66)) : List (S66))).bind fun y624 => (if x5.length + y624.length < 2932031007402 then (intrusionref07_add.l0 k x0 (x5 ++ y624) true (wrap64 (x7 + 1)) x612000 x612001 x612002 x612003 x612004 x612005) else (none))) else ((intrusionref07_Before.f x617000 x617001 x617002 x612000 x612001 x612002).bind fun t630 => (if t630 = true then ((intrusionref07_Before.f x612003 x612004 x612005 x617003 x617004 x617005).bind fun t631 => (if t631 = true then (intrusionref07_add.l0 k x0 x5 x6 (wrap64 (x7 + 1)) x617000 x617001 x617002 x617003 x617004 x617005) else (intrusionref07_add.l0 k x0 x5 x6 (wrap64 (x7 + 1)) x617000 x617001 x617002 x612003 x612004 x612005))) else ((intrusionref07_Before.f x612003 x612004 x612005 x617003 x617004 x617005).bind fun t632 => (if t632 = true then (intrusionref07_add.l0 k x0 x5 x6 (wrap64 (x7 + 1)) x612000 x612001 x612002 x617003 x617004 x617005) else (intrusionref07_add.l0 k x0 x5 x6 (wrap64 (x7 + 1)) x612000 x612001 x612002 x612003 x612004 x612005)))))
end
def intrusionref07_add.f (k : Nat) (l0 : List (S66)) (a1_0 : Bool) (a1_1 : Int) (a1_2 : Int) (a1_3 : Bool) (a1_4 : Int) (a1_5 : Int) : Option ((List (S66))) := intrusionref07_add.l0 k l0 ([] : List (S66)) false 0 a1_0 a1_1 a1_2 a1_3 a1_4 a1_5
theorem intrusionref07_add.mono_l : ∀ k, (∀ y0 y1 y2 y3 y4 y5 y6 y7 y8 y9, LeO (intrusionref07_add.l0 k y0 y1 y2 y3 y4 y5 y6 y7 y8 y9) (intrusionref07_add.l0 (k + 1) y0 y1 y2 y3 y4 y5 y6 y7 y8 y9)) ∧ (∀ y0 y1 y2 y3 y4 y5 y6 y7 y8 y9 y10 y11 y12 y13 y14 y15 y16, LeO (intrusionref07_add.j1 k y0 y1 y2 y3 y4 y5 y6 y7 y8 y9 y10 y11 y12 y13 y14 y15 y16) (intrusionref07_add.j1 (k + 1) y0 y1 y2 y3 y4 y5 y6 y7 y8 y9 y10 y11 y12 y13 y14 y15 y16)) ∧ (∀ y0 y1 y2 y3 y4 y5 y6 y7 y8 y9 y10 y11 y12 y13 y14 y15 y16, LeO (intrusionref07_add.j2 k y0 y1 y2 y3 y4 y5 y6 y7 y8 y9 y10 y11 y12 y13 y14 y15 y16) (intrusionref07_add.j2 (k + 1) y0 y1 y2 y3 y4 y5 y6 y7 y8 y9 y10 y11 y12 y13 y14 y15 y16))
  | 0 => ⟨fun _ _ _ _ _ _ _ _ _ _ r h => by simp [intrusionref07_add.l0] at h, fun _ _ _ _ _ _ _ _ _ _ _ _ _ _ _ _ _ r h => by simp [intrusionref07_add.j1] at h, fun _ _ _ _ _ _ _ _ _ _ _ _ _ _ _ _ _ r h => by simp [intrusionref07_add.j2] at h⟩
  | k + 1 => by
    obtain ⟨ih0, ih1, ih2⟩ := intrusionref07_add.mono_l k
    refine ⟨?_, ?_, ?_⟩
    · intro y0 y1 y2 y3 y4 y5 y6 y7 y8 y9
      unfold intrusionref07_add.l0
      repeat' first
      | (with_reducible exact ih0 _ _ _ _ _ _ _ _ _ _)
      | (with_reducible exact ih1 _ _ _ _ _ _ _ _ _ _ _ _ _ _ _ _ _)
      | (with_reducible exact ih2 _ _ _ _ _ _ _ _ _ _ _ _ _ _ _ _ _)
      | (with_reducible exact LeO.refl _)
      | (with_reducible exact LeO.none _)
      | (with_reducible refine LeO.ite ?_ ?_)
      | (with_reducible refine LeO.bind ?_ (fun _ => ?_))
      | exact ih0 _ _ _ _ _ _ _ _ _ _
      | exact ih1 _ _ _ _ _ _ _ _ _ _ _ _ _ _ _ _ _
      | exact ih2 _ _ _ _ _ _ _ _ _ _ _ _ _ _ _ _ _
      | exact LeO.none _
      | refine LeO.ite ?_ ?_
      | refine LeO.bind ?_ (fun _ => ?_)
    · intro y0 y1 y2 y3 y4 y5 y6 y7 y8 y9 y10 y11 y12 y13 y14 y15 y16
      unfold intrusionref07_add.j1
      repeat' first
      | (with_reducible exact ih0 _ _ _ _ _ _ _ _ _ _)
      | (with_reducible exact ih1 _ _ _ _ _ _ _ _ _ _ _ _ _ _ _ _ _)
      | (with_reducible exact ih2 _ _ _ _ _ _ _ _ _ _ _ _ _ _ _ _ _)
      | (with_reducible exact LeO.refl _)
      | (with_reducible exact LeO.none _)
      | (with_reducible refine LeO.ite ?_ ?_)
      | (with_reducible refine LeO.bind ?_ (fun _ => ?_))
      | exact ih0 _ _ _ _ _ _ _ _ _ _
      | exact ih1 _ _ _ _ _ _ _ _ _ _ _ _ _ _ _ _ _
      | exact ih2 _ _ _ _ _ _ _ _ _ _ _ _ _ _ _ _ _
      | exact LeO.none _
      | refine LeO.ite ?_ ?_
      | refine LeO.bind ?_ (fun _ => ?_)
    · intro y0 y1 y2 y3 y4 y5 y6 y7 y8 y9 y10 y11 y12 y13 y14 y15 y16
      unfold intrusionref07_add.j2
      repeat' first
      | (with_reducible exact ih0 _ _ _ _ _ _ _ _ _ _)
      | (with_reducible exact ih1 _ _ _ _ _ _ _ _ _ _ _ _ _ _ _ _ _)
      | (with_reducible exact ih2 _ _ _ _ _ _ _ _ _ _ _ _ _ _ _ _ _)
      | (with_reducible exact LeO.refl _)
      | (with_reducible exact LeO.none _)
      | (with_reducible refine LeO.ite ?_ ?_)
      | (with_reducible refine LeO.bind ?_ (fun _ => ?_))
      | exact ih0 _ _ _ _ _ _ _ _ _ _
      | exact ih1 _ _ _ _ _ _ _ _ _ _ _ _ _ _ _ _ _
      | exact ih2 _ _ _ _ _ _ _ _ _ _ _ _ _ _ _ _ _
      | exact LeO.none _
      | refine LeO.ite ?_ ?_
      | refine LeO.bind ?_ (fun _ => ?_)
theorem intrusionref07_add.mono : ∀ a0 a1 a2 a3 a4 a5 a6 k, LeO (intrusionref07_add.f k a0 a1 a2 a3 a4 a5 a6) (intrusionref07_add.f (k + 1) a0 a1 a2 a3 a4 a5 a6) := by
  intro a0 a1 a2 a3 a4 a5 a6 k
  obtain ⟨ih0, ih1, ih2⟩ := intrusionref07_add.mono_l k
  unfold intrusionref07_add.f
  repeat' first
      | (with_reducible exact ih0 _ _ _ _ _ _ _ _ _ _)
      | (with_reducible exact ih1 _ _ _ _ _ _ _ _ _ _ _ _ _ _ _ _ _)
      | (with_reducible exact ih2 _ _ _ _ _ _ _ _ _ _ _ _ _ _ _ _ _)
      | (with_reducible exact LeO.refl _)
      | (with_reducible exact LeO.none _)
      | (with_reducible refine LeO.ite ?_ ?_)
      | (with_reducible refine LeO.bind ?_ (fun _ => ?_))
      | exact ih0 _ _ _ _ _ _ _ _ _ _
      | exact ih1 _ _ _ _ _ _ _ _ _ _ _ _ _ _ _ _ _
      | exact ih2 _ _ _ _ _ _ _ _ _ _ _ _ _ _ _ _ _
      | exact LeO.none _
      | refine LeO.ite ?_ ?_
      | refine LeO.bind ?_ (fun _ => ?_)
end Go.Proofs.Ytcgfpffgiimgmaa.Q
end

section
namespace Go.Proofs.Ytcgfpffgiimgmaa.Q
open Go.RowKit Go.Proofs.YtcgfpffgiimgmaaW.PrintWords Go.Proofs.YtcgfpffgiimgmaaW.PrintLast Go.Proofs.YtcgfpffgiimgmaaW.PrintMore
attribute [local go_sem] max2_int min2_int max_two min_two max_three min_three max_four min_four
set_option linter.unusedVariables false
set_option linter.unusedSimpArgs false
def intrusionref07_Normal.l0 : Nat → List (S66) → List (S66) → Int → Option ((List (S66)))
  | 0, _, _, _ => none
  | k + 1, x0, x3, x4 => if x4 < (x0.length : Int) then (if 0 ≤ x4 then ((intrusionref07_Some.f ((rd_T66 x0 x4).f0.f0) ((rd_T66 x0 x4).f0.f1) ((rd_T66 x0 x4).f0.f2) ((rd_T66 x0 x4).f1.f0) ((rd_T66 x0 x4).f1.f1) ((rd_T66 x0 x4).f1.f2)).bind fun t634 => (if t634 = true then ((intrusionref07_add.f k x3 ((rd_T66 x0 x4).f0.f0) ((rd_T66 x0 x4).f0.f1) ((rd_T66 x0 x4).f0.f2) ((rd_T66 x0 x4).f1.f0) ((rd_T66 x0 x4).f1.f1) ((rd_T66 x0 x4).f1.f2)).bind fun t636 => (intrusionref07_Normal.l0 k x0 t636 (wrap64 (x4 + 1)))) else (intrusionref07_Normal.l0 k x0 x3 (wrap64 (x4 + 1))))) else (none)) else (some x3)
def intrusionref07_Normal.f (k : Nat) (l0 : List (S66)) : Option ((List (S66))) := intrusionref07_Normal.l0 k l0 ([] : List (S66)) 0
theorem intrusionref07_Normal.mono_l : ∀ k, (∀ y0 y1 y2, LeO (intrusionref07_Normal.l0 k y0 y1 y2) (intrusionref07_Normal.l0 (k + 1) y0 y1 y2))
  | 0 => fun _ _ _ r h => by simp [intrusionref07_Normal.l0] at h
  | k + 1 => by
    have ih0 := intrusionref07_Normal.mono_l k
    · intro y0 y1 y2
      unfold intrusionref07_Normal.l0
      repeat' first
      | (with_reducible exact ih0 _ _ _)
      | (with_reducible exact intrusionref07_add.mono _ _ _ _ _ _ _ _)
      | (with_reducible exact LeO.refl _)
      | (with_reducible exact LeO.none _)
      | (with_reducible refine LeO.ite ?_ ?_)
      | (with_reducible refine LeO.bind ?_ (fun _ => ?_))
      | exact ih0 _ _ _
      | exact intrusionref07_add.mono _ _ _ _ _ _ _ _
      | exact LeO.none _
      | refine LeO.ite ?_ ?_
      | refine LeO.bind ?_ (fun _ => ?_)
theorem intrusionref07_Normal.mono : ∀ a0 k, LeO (intrusionref07_Normal.f k a0) (intrusionref07_Normal.f (k + 1) a0) := by
  intro a0 k
  have ih0 := intrusionref07_Normal.mono_l k
  unfold intrusionref07_Normal.f
  repeat' first
      | (with_reducible exact ih0 _ _ _)
      | (with_reducible exact intrusionref07_add.mono _ _ _ _ _ _ _ _)
      | (with_reducible exact LeO.refl _)
      | (with_reducible exact LeO.none _)
      | (with_reducible refine LeO.ite ?_ ?_)
      | (with_reducible refine LeO.bind ?_ (fun _ => ?_))
      | exact ih0 _ _ _
      | exact intrusionref07_add.mono _ _ _ _ _ _ _ _
      | exact LeO.none _
      | refine LeO.ite ?_ ?_
      | refine LeO.bind ?_ (fun _ => ?_)
end Go.Proofs.Ytcgfpffgiimgmaa.Q
end

section
set_option linter.unusedVariables false
set_option linter.unusedSimpArgs false
namespace Go.Proofs.Ytcgfpffgiimgmaa.Q
open Go.RowKit Go.Proofs.YtcgfpffgiimgmaaW.PrintWords Go.Proofs.YtcgfpffgiimgmaaW.PrintLast Go.Proofs.YtcgfpffgiimgmaaW.PrintMore Go.Proofs.Ytcgfpffgiimgmaa.Canon
theorem wid {x : Int} (h0 : -9223372036854775808 ≤ x) (h1 : x ≤ 9223372036854775807) : wrap64 x = x := by unfold wrap64; omega
theorem wsucc (i : Nat) (h : i < 9223372036854775807) : wrap64 ((i : Int) + 1) = ((i + 1 : Nat) : Int) := by rw [wid (by omega) (by omega)]; simp
theorem wpred (i : Nat) (h0 : 0 < i) (h : i < 9223372036854775807) : wrap64 ((i : Int) - 1) = ((i - 1 : Nat) : Int) := by rw [wid (by omega) (by omega)]; omega
theorem dropc {α : Type} (l : List α) (i : Nat) (h : i < l.length) : l.drop i = l[i] :: l.drop (i + 1) := List.drop_eq_getElem_cons h
def rsp (r : Rg) : Sp := (av r.f0, av r.f1)
def ASM (l : List Rg) (n : Int) : Prop := ∃ x ∈ l, RW x ∧ av x.f0 ≤ n ∧ n ≤ av x.f1
theorem asm_nil (n : Int) : ASM [] n ↔ False := by simp [ASM]
theorem asm_cons (x : Rg) (t : List Rg) (n : Int) : ASM (x :: t) n ↔ (RW x ∧ av x.f0 ≤ n ∧ n ≤ av x.f1) ∨ ASM t n := by
  unfold ASM
  simp only [List.mem_cons]
  constructor
  · rintro ⟨y, rfl | hy, h⟩
    · exact .inl h
    · exact .inr ⟨y, hy, h⟩
  · rintro (h | ⟨y, hy, h⟩)
    · exact ⟨x, .inl rfl, h⟩
    · exact ⟨y, .inr hy, h⟩
theorem asm_append (a b : List Rg) (n : Int) : ASM (a ++ b) n ↔ ASM a n ∨ ASM b n := by
  unfold ASM
  simp only [List.mem_append]
  constructor
  · rintro ⟨y, hy | hy, h⟩
    · exact .inl ⟨y, hy, h⟩
    · exact .inr ⟨y, hy, h⟩
  · rintro (⟨y, hy, h⟩ | ⟨y, hy, h⟩)
    · exact ⟨y, .inl hy, h⟩
    · exact ⟨y, .inr hy, h⟩
theorem asm_perm {a b : List Rg} (h : a.Perm b) (n : Int) : ASM a n ↔ ASM b n := by
  unfold ASM
  constructor
  · rintro ⟨x, hx, g⟩; exact ⟨x, h.mem_iff.1 hx, g⟩
  · rintro ⟨x, hx, g⟩; exact ⟨x, h.mem_iff.2 hx, g⟩
theorem asm_filter (l : List Rg) (hl : ∀ x ∈ l, RB x) (n : Int) : ASM (l.filter someB) n ↔ ASM l n := by
  unfold ASM
  constructor
  · rintro ⟨x, hx, g⟩; exact ⟨x, (List.mem_filter.1 hx).1, g⟩
  · rintro ⟨x, hx, g⟩; exact ⟨x, List.mem_filter.2 ⟨hx, (some_iff (hl x hx)).2 g.1⟩, g⟩
theorem asm_mem {l : List Rg} (hl : ∀ x ∈ l, RW x) (n : Int) : ASM l n ↔ Mem (l.map rsp) n := by
  unfold ASM Mem
  constructor
  · rintro ⟨x, hx, _, h⟩; exact ⟨rsp x, List.mem_map.2 ⟨x, hx, rfl⟩, h⟩
  · rintro ⟨y, hy, h⟩
    obtain ⟨x, hx, rfl⟩ := List.mem_map.1 hy
    exact ⟨x, hx, hl x hx, h⟩
def ACan (P : Int → Prop) (r : List Rg) : Prop := CanFrom 0 (r.map rsp) ∧ (∀ x ∈ r, RW x) ∧ ∀ n, ASM r n ↔ P n
theorem rsp_inj {x y : Rg} (hx : RW x) (hy : RW y) (h : rsp x = rsp y) : x = y := by
  unfold rsp at h
  injection h with h1 h2
  have e1 := av_inj hx.1.1 hy.1.1 h1
  have e2 := av_inj hx.2.1.1 hy.2.1.1 h2
  cases x; cases y
  simp only at e1 e2
  rw [e1, e2]
theorem map_rsp_inj : ∀ {a b : List Rg}, (∀ x ∈ a, RW x) → (∀ x ∈ b, RW x) → a.map rsp = b.map rsp → a = b
  | [], [], _, _, _ => rfl
  | [], y :: t, _, _, h => by simp at h
  | x :: s, [], _, _, h => by simp at h
  | x :: s, y :: t, ha, hb, h => by
    simp only [List.map_cons, List.cons.injEq] at h
    rw [rsp_inj (ha x (List.mem_cons_self ..)) (hb y (List.mem_cons_self ..)) h.1, map_rsp_inj (fun z hz => ha z (List.mem_cons_of_mem _ hz)) (fun z hz => hb z (List.mem_cons_of_mem _ hz)) h.2]
theorem ACan.uniq {P : Int → Prop} {a b : List Rg} (ha : ACan P a) (hb : ACan P b) : a = b :=
  map_rsp_inj ha.2.1 hb.2.1 (Canon.uniq _ _ 0 ha.1 hb.1 (fun n => by rw [← asm_mem ha.2.1, ← asm_mem hb.2.1, ha.2.2, hb.2.2]))
theorem ACan.congr {P Q : Int → Prop} {r : List Rg} (h : ACan P r) (e : ∀ n, P n ↔ Q n) : ACan Q r := ⟨h.1, h.2.1, fun n => (h.2.2 n).trans (e n)⟩
theorem ACan.self {r : List Rg} (h1 : CanFrom 0 (r.map rsp)) (h2 : ∀ x ∈ r, RW x) : ACan (ASM r) r := ⟨h1, h2, fun _ => Iff.rfl⟩
theorem ACan.nil {P : Int → Prop} (h : ∀ n, ¬ P n) : ACan P [] := ⟨trivial, by simp, fun n => by rw [asm_nil]; exact ⟨False.elim, h n⟩⟩
theorem ACan.empty {P : Int → Prop} {r : List Rg} (h : ACan P r) : r = [] ↔ ∀ n, ¬ P n := by
  constructor
  · rintro rfl n hn
    exact (asm_nil n).1 ((h.2.2 n).2 hn)
  · intro g
    cases r with
    | nil => rfl
    | cons x t =>
      have hx := h.2.1 x (List.mem_cons_self ..)
      exact (g (av x.f0) ((h.2.2 _).1 ⟨x, List.mem_cons_self .., hx, Int.le_refl _, hx.2.2.2⟩)).elim
theorem greaterA_spec {a b : Ad} (ha : AW a) (hb : AW b) : (greaterA a b = a ∨ greaterA a b = b) ∧ av a ≤ av (greaterA a b) ∧ av b ≤ av (greaterA a b) := by
  unfold greaterA
  have := cmp_ge' ha hb
  split
  · rename_i h
    exact ⟨.inl rfl, by omega, by omega⟩
  · rename_i h
    exact ⟨.inr rfl, by omega, by omega⟩
theorem lessA_spec {a b : Ad} (ha : AW a) (hb : AW b) : (lessA a b = a ∨ lessA a b = b) ∧ av (lessA a b) ≤ av a ∧ av (lessA a b) ≤ av b := by
  unfold lessA
  have := cmp_le' ha hb
  split
  · rename_i h
    exact ⟨.inl rfl, by omega, by omega⟩
  · rename_i h
    exact ⟨.inr rfl, by omega, by omega⟩
def mrgR (out : List Rg) (x : Rg) : List Rg :=
  if h : 0 < out.length then (if nearP (out[out.length - 1]'(by omega)) x then out.set (out.length - 1) ⟨(out[out.length - 1]'(by omega)).f0, greaterA (out[out.length - 1]'(by omega)).f1 x.f1⟩ else out ++ [x]) else out ++ [x]
theorem mrgR_nil (x : Rg) : mrgR [] x = [x] := by simp [mrgR]
theorem mrgR_snoc (i : List Rg) (y x : Rg) : mrgR (i ++ [y]) x = if nearP y x then i ++ [(⟨y.f0, greaterA y.f1 x.f1⟩ : Rg)] else i ++ [y] ++ [x] := by
  have hl : (i ++ [y]).length - 1 = i.length := by simp
  have hg : (i ++ [y])[(i ++ [y]).length - 1]'(by simp) = y := by simp
  unfold mrgR
  rw [dif_pos (by simp)]
  rw [hg, hl]
  split
  · simp
  · rfl
theorem mrgR_len (out : List Rg) (x : Rg) : out.length ≤ (mrgR out x).length ∧ (mrgR out x).length ≤ out.length + 1 := by
  unfold mrgR
  split
  · split <;> simp
  · simp
theorem foldR_len : ∀ (L out : List Rg), (L.foldl mrgR out).length ≤ out.length + L.length
  | [], out => by simp
  | x :: t, out => by
    have h1 := foldR_len t (mrgR out x)
    have h2 := (mrgR_len out x).2
    simp only [List.foldl_cons, List.length_cons]
    omega
theorem joinRW {y x : Rg} (hy : RW y) (hx : RW x) (hn : nearP y x) : RW ⟨y.f0, greaterA y.f1 x.f1⟩ := by
  obtain ⟨g1, g2, g3⟩ := greaterA_spec hy.2.1.1 hx.2.1.1
  refine ⟨hy.1, ?_, ?_, Int.le_trans hy.2.2.2 g2⟩
  · rcases g1 with e | e
    · show AF (greaterA y.f1 x.f1); rw [e]; exact hy.2.1
    · show AF (greaterA y.f1 x.f1); rw [e]; exact hx.2.1
  · show y.f0.f0 = (greaterA y.f1 x.f1).f0
    rcases g1 with e | e
    · rw [e]; exact hy.2.2.1
    · rw [e]; exact hn.1.trans hx.2.2.1
theorem mrgR_RW {out : List Rg} {x : Rg} (ho : ∀ z ∈ out, RW z) (hx : RW x) : ∀ z ∈ mrgR out x, RW z := by
  rcases List.eq_nil_or_concat out with rfl | ⟨j, y, rfl⟩
  · rw [mrgR_nil]; intro z h; rw [List.mem_singleton.1 h]; exact hx
  · have hy := ho y (by simp)
    rw [List.concat_eq_append, mrgR_snoc]
    split
    · rename_i hn
      intro z h
      rcases List.mem_append.1 h with h | h
      · exact ho z (by simp [h])
      · rw [List.mem_singleton.1 h]; exact joinRW hy hx hn
    · intro z h
      rcases List.mem_append.1 h with h | h
      · exact ho z (by rw [List.concat_eq_append]; exact h)
      · rw [List.mem_singleton.1 h]; exact hx
theorem ev_aNormal0 (L : List Rg) (hl : L.length < 2932031007402) (hL : ∀ x ∈ L, RW x) : ∀ (d i : Nat) (out : List Rg), L.length - i = d → i ≤ L.length → out.length ≤ i → (∀ x ∈ out, RW x) → Ev (fun k => addrset_Normal.l0 k out L (L.length : Int) (i : Int)) ((L.drop i).foldl mrgR out) := by
  intro d
  induction d with
  | zero =>
    intro i out hd hi ho _
    have : i = L.length := by omega
    subst this
    refine Ev.step (f := fun _ => some out) (fun k => ?_) ?_
    · simp only [addrset_Normal.l0]; rw [if_neg (by omega)]
    · simpa using Ev.now out
  | succ d ih =>
    intro i out hd hi ho hw
    have hlt : i < L.length := by omega
    have hx := hL L[i] (List.getElem_mem hlt)
    rw [dropc L i hlt, List.foldl_cons]
    have h2 := ih (i + 1) (mrgR out L[i]) (by omega) (by omega) (by have := (mrgR_len out L[i]).2; omega) (mrgR_RW hw hx)
    refine Ev.step (fun k => ?_) h2
    simp only [addrset_Normal.l0]
    rw [if_pos (by omega), if_pos (by omega), if_pos (by omega), rd_getR L i hlt]
    by_cases h0 : 0 < out.length
    · have hy := hw (out[out.length - 1]'(by omega)) (List.getElem_mem _)
      rw [show wrap64 ((out.length : Int) - 1) = ((out.length - 1 : Nat) : Int) from wpred _ h0 (by omega), if_pos (by omega), if_pos (by omega), if_pos (by omega), rd_getR out (out.length - 1) (by omega), near_eq _ _ hy hx]
      simp only [Option.bind_some]
      unfold mrgR
      rw [dif_pos h0]
      by_cases hn : nearP (out[out.length - 1]'(by omega)) L[i]
      · rw [if_pos (decide_eq_true hn), if_pos hn, greater_eq, wsucc i (by omega)]
        rfl
      · rw [if_neg (by simpa using hn), if_neg hn, if_pos (by omega), wsucc i (by omega)]
    · have e : out = [] := List.eq_nil_of_length_eq_zero (by omega)
      subst e
      rw [if_neg (by simp [wrap64]), if_pos (by simp), wsucc i (by omega), mrgR_nil]
      rfl
theorem mrgR_spec : ∀ (L i : List Rg) (y : Rg), (∀ x ∈ L, RW x) → L.Pairwise (fun a b => av a.f0 ≤ av b.f0) → (∀ x ∈ L, av y.f0 ≤ av x.f0) → CanFrom 0 ((i ++ [y]).map rsp) → (∀ x ∈ i ++ [y], RW x) → ACan (fun n => ASM (i ++ [y]) n ∨ ASM L n) (L.foldl mrgR (i ++ [y]))
  | [], i, y, _, _, _, hc, hm => by
    refine ⟨hc, hm, fun n => ?_⟩
    simp [asm_nil]
  | x :: t, i, y, hL, hp, hy, hc, hm => by
    have hx := hL x (List.mem_cons_self ..)
    have hwy := hm y (by simp)
    have ht : ∀ z ∈ t, RW z := fun z hz => hL z (List.mem_cons_of_mem _ hz)
    obtain ⟨p1, p2⟩ := List.pairwise_cons.1 hp
    rw [List.foldl_cons, mrgR_snoc]
    have hxy := hy x (List.mem_cons_self ..)
    have hni := nearP_iff hwy hx hxy
    have hc0 := hc
    rw [List.map_append, can_append] at hc
    obtain ⟨c1, c2, _, c4⟩ := hc
    simp only [List.map_cons, List.map_nil, List.mem_singleton, forall_eq] at c2 c4
    have w1 : av y.f0 ≤ av y.f1 := hwy.2.2.2
    have x2 : av x.f0 ≤ av x.f1 := hx.2.2.2
    by_cases hj : nearP y x
    · rw [if_pos hj]
      have hj2 := hni.1 hj
      obtain ⟨g1, g2, g3⟩ := greaterA_spec hwy.2.1.1 hx.2.1.1
      have hjw := joinRW hwy hx hj
      have g4 : av (greaterA y.f1 x.f1) = av y.f1 ∨ av (greaterA y.f1 x.f1) = av x.f1 := by
        rcases g1 with e | e
        · exact .inl (by rw [e])
        · exact .inr (by rw [e])
      generalize greaterA y.f1 x.f1 = m at g2 g3 g4 hjw
      have h := mrgR_spec t i ⟨y.f0, m⟩ ht p2 (fun z hz => Int.le_trans hxy (p1 z hz)) (by
        rw [List.map_append, can_append]
        refine ⟨c1, ?_, ⟨av y.f0, by simp [rsp, CanFrom]; omega⟩, ?_⟩
        · intro z hz u hu
          simp only [List.map_cons, List.map_nil, List.mem_singleton] at hu
          subst hu
          exact c2 z hz
        · intro u hu
          simp only [List.map_cons, List.map_nil, List.mem_singleton] at hu
          subst hu
          exact c4) (by
        intro z hz
        rcases List.mem_append.1 hz with hz | hz
        · exact hm z (by simp [hz])
        · rw [List.mem_singleton.1 hz]; exact hjw)
      refine h.congr (fun n => ?_)
      rw [asm_append, asm_append, asm_cons, asm_cons, asm_cons, asm_nil]
      simp only [or_false]
      constructor
      · rintro ((h | ⟨_, h, h3⟩) | h)
        · exact .inl (.inl h)
        · by_cases hn : n ≤ av y.f1
          · exact .inl (.inr ⟨hwy, h, hn⟩)
          · have h3 : n ≤ av m := h3
            exact .inr (.inl ⟨hx, by omega, by omega⟩)
        · exact .inr (.inr h)
      · rintro ((h | ⟨_, h, h3⟩) | ⟨_, h, h3⟩ | h)
        · exact .inl (.inl h)
        · exact .inl (.inr ⟨hjw, h, show n ≤ av m from by omega⟩)
        · exact .inl (.inr ⟨hjw, show av y.f0 ≤ n from by omega, show n ≤ av m from by omega⟩)
        · exact .inr h
    · rw [if_neg hj]
      have hj2 : ¬ av x.f0 ≤ av y.f1 + 1 := fun e => hj (hni.2 e)
      have h := mrgR_spec t (i ++ [y]) x ht p2 p1 (by
        rw [List.map_append, can_append]
        refine ⟨hc0, ?_, ⟨av x.f0, by simp [rsp, CanFrom]; omega⟩, ?_⟩
        · intro z hz u hu
          simp only [List.map_cons, List.map_nil, List.mem_singleton] at hu
          subst hu
          rw [List.map_append] at hz
          rcases List.mem_append.1 hz with hz | hz
          · have := c2 z hz
            simp only [rsp] at this ⊢
            omega
          · simp only [List.map_cons, List.map_nil, List.mem_singleton] at hz
            subst hz
            simp only [rsp]
            omega
        · intro u hu
          simp only [List.map_cons, List.map_nil, List.mem_singleton] at hu
          subst hu
          have := hx.num.1
          simpa [rsp] using this) (by
        intro z hz
        rcases List.mem_append.1 hz with hz | hz
        · exact hm z hz
        · rw [List.mem_singleton.1 hz]; exact hx)
      refine h.congr (fun n => ?_)
      rw [asm_append (i ++ [y]) [x], asm_cons x t, asm_cons x [], asm_nil]
      simp only [or_false, or_assoc]
theorem mergeR_spec (L : List Rg) (hL : ∀ x ∈ L, RW x) (hp : L.Pairwise (fun a b => av a.f0 ≤ av b.f0)) : ACan (ASM L) (L.foldl mrgR []) := by
  cases L with
  | nil => exact ⟨trivial, by simp, fun n => Iff.rfl⟩
  | cons x t =>
    obtain ⟨p1, p2⟩ := List.pairwise_cons.1 hp
    have hx := hL x (List.mem_cons_self ..)
    have h := mrgR_spec t [] x (fun z hz => hL z (List.mem_cons_of_mem _ hz)) p2 p1 ⟨hx.num.1, hx.2.2.2, trivial⟩ (by simp; exact hx)
    rw [List.foldl_cons, mrgR_nil]
    refine h.congr (fun n => ?_)
    rw [List.nil_append, asm_cons, asm_cons, asm_nil, or_false]
theorem aNormal_spec (l : List Rg) (hl : l.length < 2932031007402) (hb : ∀ x ∈ l, RB x) : ∃ r, Ev (fun k => addrset_Normal.f k l) r ∧ ACan (ASM l) r ∧ r.length ≤ l.length := by
  obtain ⟨s1, s2, s3⟩ := sortRanges_spec (l.filter someB)
  have hw : ∀ x ∈ sortRanges (l.filter someB), RW x := fun x hx => by
    have h1 := List.mem_filter.1 (s2.mem_iff.1 hx)
    exact (some_iff (hb x h1.1)).1 h1.2
  have hlen := List.length_filter_le someB l
  refine ⟨(sortRanges (l.filter someB)).foldl mrgR [], ?_, ?_, ?_⟩
  · unfold addrset_Normal.f addrset_kept.f
    rw [if_pos hl]
    have h := ev_aNormal0 (sortRanges (l.filter someB)) (by omega) hw _ 0 [] rfl (Nat.zero_le _) (Nat.le_refl _) (by simp)
    simpa using h
  · refine (mergeR_spec _ hw ?_).congr (fun n => ?_)
    · rw [List.pairwise_iff_getElem] at s3 ⊢
      intro i j hi hj hij
      have := s3 i j hi hj hij
      rw [ltA_iff (hw _ (List.getElem_mem hj)).1.1 (hw _ (List.getElem_mem hi)).1.1] at this
      omega
    · rw [asm_perm s2, asm_filter l hb]
  · have := foldR_len (sortRanges (l.filter someB)) []
    simp at this
    omega
theorem apart_iff {x r : Rg} (hx : RW x) (hr : RW r) : (av x.f1 < av r.f0 ∧ ¬ nearP x r) ↔ av x.f1 + 1 < av r.f0 := by
  have x2 := hx.2.2.2
  constructor
  · rintro ⟨h1, h2⟩
    have h3 := nearP_iff hx hr (by omega)
    apply Classical.byContradiction
    intro hc
    exact h2 (h3.2 (by omega))
  · intro h
    have := nearP_iff hx hr (by omega)
    exact ⟨by omega, fun e => by have := this.1 e; omega⟩
theorem ACan.none : ACan (fun _ => False) [] := ACan.nil (fun _ h => h)
theorem ev_aSame (L : List Rg) (hl : L.length < 2932031007402) : ∀ (d i : Nat), L.length - i = d → i ≤ L.length → Ev (fun k => intrusionref07_Same.l0 k L L (i : Int)) true := by
  intro d
  induction d with
  | zero =>
    intro i hd hi
    have : i = L.length := by omega
    subst this
    refine Ev.step (f := fun _ => some true) (fun k => ?_) (Ev.now true)
    simp only [intrusionref07_Same.l0]; rw [if_neg (by omega)]
  | succ d ih =>
    intro i hd hi
    have hlt : i < L.length := by omega
    refine Ev.step (fun k => ?_) (ih (i + 1) (by omega) (by omega))
    simp only [intrusionref07_Same.l0]
    rw [if_pos (by omega), if_pos (by omega), if_pos (by omega), rd_getR L i hlt, wsucc i (by omega)]
    simp
theorem aSame_ev (L : List Rg) (hl : L.length < 2932031007402) : Ev (fun k => intrusionref07_Same.f k L L) true := by
  have h := ev_aSame L hl L.length 0 rfl (Nat.zero_le _)
  refine Ev.congr (fun k => ?_) h
  unfold intrusionref07_Same.f
  rw [if_pos (by trivial)]
  rfl
end Go.Proofs.Ytcgfpffgiimgmaa.Q
end

section
namespace Go.Proofs.Ytcgfpffgiimgmaa.Q
open Go.RowKit Go.Proofs.YtcgfpffgiimgmaaW.PrintWords Go.Proofs.YtcgfpffgiimgmaaW.PrintLast Go.Proofs.YtcgfpffgiimgmaaW.PrintMore
attribute [local go_sem] max2_int min2_int max_two min_two max_three min_three max_four min_four
set_option linter.unusedVariables false
set_option linter.unusedSimpArgs false
def intrusionref07_Valid.l0 : Nat → List (S66) → Int → Option (Bool)
  | 0, _, _ => none
  | k + 1, x0, x3 => if x3 < (x0.length : Int) then (if 0 ≤ x3 then ((intrusionref07_Some.f ((rd_T66 x0 x3).f0.f0) ((rd_T66 x0 x3).f0.f1) ((rd_T66 x0 x3).f0.f2) ((rd_T66 x0 x3).f1.f0) ((rd_T66 x0 x3).f1.f1) ((rd_T66 x0 x3).f1.f2)).bind fun t640 => (if t640 = true then (if x3 > 0 then (if 0 ≤ (wrap64 (x3 - 1)) then (if (wrap64 (x3 - 1)) < (x0.length : Int) then ((intrusionref07_Before.f ((rd_T66 x0 (wrap64 (x3 - 1))).f1.f0) ((rd_T66 x0 (wrap64 (x3 - 1))).f1.f1) ((rd_T66 x0 (wrap64 (x3 - 1))).f1.f2) ((rd_T66 x0 x3).f0.f0) ((rd_T66 x0 x3).f0.f1) ((rd_T66 x0 x3).f0.f2)).bind fun t643 => (if t643 = true then ((intrusionref07_joined.f ((rd_T66 x0 (wrap64 (x3 - 1))).f0.f0) ((rd_T66 x0 (wrap64 (x3 - 1))).f0.f1) ((rd_T66 x0 (wrap64 (x3 - 1))).f0.f2) ((rd_T66 x0 (wrap64 (x3 - 1))).f1.f0) ((rd_T66 x0 (wrap64 (x3 - 1))).f1.f1) ((rd_T66 x0 (wrap64 (x3 - 1))).f1.f2) ((rd_T66 x0 x3).f0.f0) ((rd_T66 x0 x3).f0.f1) ((rd_T66 x0 x3).f0.f2) ((rd_T66 x0 x3).f1.f0) ((rd_T66 x0 x3).f1.f1) ((rd_T66 x0 x3).f1.f2)).bind fun t646 => (if t646 = true then (some false) else (intrusionref07_Valid.l0 k x0 (wrap64 (x3 + 1))))) else (some false))) else (none)) else (none)) else (intrusionref07_Valid.l0 k x0 (wrap64 (x3 + 1)))) else (some false))) else (none)) else (some true)
def intrusionref07_Valid.f (k : Nat) (l0 : List (S66)) : Option (Bool) := intrusionref07_Valid.l0 k l0 0
theorem intrusionref07_Valid.mono_l : ∀ k, (∀ y0 y1, LeO (intrusionref07_Valid.l0 k y0 y1) (intrusionref07_Valid.l0 (k + 1) y0 y1))
  | 0 => fun _ _ r h => by simp [intrusionref07_Valid.l0] at h
  | k + 1 => by
    have ih0 := intrusionref07_Valid.mono_l k
    · intro y0 y1
      unfold intrusionref07_Valid.l0
      repeat' first
      | (with_reducible exact ih0 _ _)
      | (with_reducible exact LeO.refl _)
      | (with_reducible exact LeO.none _)
      | (with_reducible refine LeO.ite ?_ ?_)
      | (with_reducible refine LeO.bind ?_ (fun _ => ?_))
      | exact ih0 _ _
      | exact LeO.none _
      | refine LeO.ite ?_ ?_
      | refine LeO.bind ?_ (fun _ => ?_)
theorem intrusionref07_Valid.mono : ∀ a0 k, LeO (intrusionref07_Valid.f k a0) (intrusionref07_Valid.f (k + 1) a0) := by
  intro a0 k
  have ih0 := intrusionref07_Valid.mono_l k
  unfold intrusionref07_Valid.f
  repeat' first
      | (with_reducible exact ih0 _ _)
      | (with_reducible exact LeO.refl _)
      | (with_reducible exact LeO.none _)
      | (with_reducible refine LeO.ite ?_ ?_)
      | (with_reducible refine LeO.bind ?_ (fun _ => ?_))
      | exact ih0 _ _
      | exact LeO.none _
      | refine LeO.ite ?_ ?_
      | refine LeO.bind ?_ (fun _ => ?_)
end Go.Proofs.Ytcgfpffgiimgmaa.Q
end

section
namespace Go.Proofs.Ytcgfpffgiimgmaa.Q
open Go.RowKit Go.Proofs.YtcgfpffgiimgmaaW.PrintWords Go.Proofs.YtcgfpffgiimgmaaW.PrintLast Go.Proofs.YtcgfpffgiimgmaaW.PrintMore
attribute [local go_sem] max2_int min2_int max_two min_two max_three min_three max_four min_four
set_option linter.unusedVariables false
set_option linter.unusedSimpArgs false
def intrusionref07_Contains.l0 : Nat → List (S66) → Int → Bool → Int → Int → Option (Bool)
  | 0, _, _, _, _, _ => none
  | k + 1, x0, x5, x648000, x648001, x648002 => if x5 < (x0.length : Int) then ((intrusionref07_Fine.f x648000 x648001 x648002).bind fun t648 => (if t648 = true then (if 0 ≤ x5 then ((intrusionref07_Some.f ((rd_T66 x0 x5).f0.f0) ((rd_T66 x0 x5).f0.f1) ((rd_T66 x0 x5).f0.f2) ((rd_T66 x0 x5).f1.f0) ((rd_T66 x0 x5).f1.f1) ((rd_T66 x0 x5).f1.f2)).bind fun t650 => (if t650 = true then (if (((rd_T66 x0 x5).f0.f0) == x648000) = true then ((intrusionref07_Before.f x648000 x648001 x648002 ((rd_T66 x0 x5).f0.f0) ((rd_T66 x0 x5).f0.f1) ((rd_T66 x0 x5).f0.f2)).bind fun t653 => (if t653 = true then (intrusionref07_Contains.l0 k x0 (wrap64 (x5 + 1)) x648000 x648001 x648002) else ((intrusionref07_Before.f ((rd_T66 x0 x5).f1.f0) ((rd_T66 x0 x5).f1.f1) ((rd_T66 x0 x5).f1.f2) x648000 x648001 x648002).bind fun t655 => (if t655 = true then (intrusionref07_Contains.l0 k x0 (wrap64 (x5 + 1)) x648000 x648001 x648002) else (some true))))) else (intrusionref07_Contains.l0 k x0 (wrap64 (x5 + 1)) x648000 x648001 x648002)) else (intrusionref07_Contains.l0 k x0 (wrap64 (x5 + 1)) x648000 x648001 x648002))) else (none)) else (intrusionref07_Contains.l0 k x0 (wrap64 (x5 + 1)) x648000 x648001 x648002))) else (some false)
def intrusionref07_Contains.f (k : Nat) (l0 : List (S66)) (a1_0 : Bool) (a1_1 : Int) (a1_2 : Int) : Option (Bool) := intrusionref07_Contains.l0 k l0 0 a1_0 a1_1 a1_2
theorem intrusionref07_Contains.mono_l : ∀ k, (∀ y0 y1 y2 y3 y4, LeO (intrusionref07_Contains.l0 k y0 y1 y2 y3 y4) (intrusionref07_Contains.l0 (k + 1) y0 y1 y2 y3 y4))
  | 0 => fun _ _ _ _ _ r h => by simp [intrusionref07_Contains.l0] at h
  | k + 1 => by
    have ih0 := intrusionref07_Contains.mono_l k
    · intro y0 y1 y2 y3 y4
      unfold intrusionref07_Contains.l0
      repeat' first
      | (with_reducible exact ih0 _ _ _ _ _)
      | (with_reducible exact LeO.refl _)
      | (with_reducible exact LeO.none _)
      | (with_reducible refine LeO.ite ?_ ?_)
      | (with_reducible refine LeO.bind ?_ (fun _ => ?_))
      | exact ih0 _ _ _ _ _
      | exact LeO.none _
      | refine LeO.ite ?_ ?_
      | refine LeO.bind ?_ (fun _ => ?_)
theorem intrusionref07_Contains.mono : ∀ a0 a1 a2 a3 k, LeO (intrusionref07_Contains.f k a0 a1 a2 a3) (intrusionref07_Contains.f (k + 1) a0 a1 a2 a3) := by
  intro a0 a1 a2 a3 k
  have ih0 := intrusionref07_Contains.mono_l k
  unfold intrusionref07_Contains.f
  repeat' first
      | (with_reducible exact ih0 _ _ _ _ _)
      | (with_reducible exact LeO.refl _)
      | (with_reducible exact LeO.none _)
      | (with_reducible refine LeO.ite ?_ ?_)
      | (with_reducible refine LeO.bind ?_ (fun _ => ?_))
      | exact ih0 _ _ _ _ _
      | exact LeO.none _
      | refine LeO.ite ?_ ?_
      | refine LeO.bind ?_ (fun _ => ?_)
end Go.Proofs.Ytcgfpffgiimgmaa.Q
end

section
set_option linter.unusedVariables false
set_option linter.unusedSimpArgs false
namespace Go.Proofs.Ytcgfpffgiimgmaa.Q
open Go.RowKit Go.Proofs.YtcgfpffgiimgmaaW.PrintWords Go.Proofs.YtcgfpffgiimgmaaW.PrintLast Go.Proofs.YtcgfpffgiimgmaaW.PrintMore Go.Proofs.Ytcgfpffgiimgmaa.Canon
def okAtR (L : List Rg) (i : Nat) : Bool := if h : i < L.length then someB L[i] && (if h0 : 0 < i then decide (av (L[i - 1]'(by omega)).f1 + 1 < av L[i].f0) else true) else true
def okAllR (L : List Rg) : Bool := (List.range' 0 L.length).all (okAtR L)
theorem okR_from (L : List Rg) (i : Nat) : (List.range' i (L.length - i)).all (okAtR L) = if i < L.length then okAtR L i && (List.range' (i + 1) (L.length - (i + 1))).all (okAtR L) else true := by
  by_cases h : i < L.length
  · rw [if_pos h, show L.length - i = (L.length - (i + 1)) + 1 from by omega, List.range'_succ, List.all_cons]
  · rw [if_neg h, show L.length - i = 0 from by omega]
    rfl
theorem ev_aValid (L : List Rg) (hl : L.length < 2932031007402) (hq : ∀ x ∈ L, RB x) : ∀ (d i : Nat), L.length - i = d → i ≤ L.length → (∀ j, j < i → okAtR L j = true) →
    Ev (fun k => addrset_Valid.l0 k L L (L.length : Int) (i : Int)) ((List.range' i (L.length - i)).all (okAtR L)) ∧ Ev (fun k => intrusionref07_Valid.l0 k L (i : Int)) ((List.range' i (L.length - i)).all (okAtR L)) := by
  intro d
  induction d with
  | zero =>
    intro i hd hi _
    have : i = L.length := by omega
    subst this
    rw [okR_from, if_neg (by omega)]
    constructor
    · refine Ev.step (f := fun _ => some true) (fun k => ?_) (Ev.now true)
      simp only [addrset_Valid.l0]; rw [if_neg (by omega)]
    · refine Ev.step (f := fun _ => some true) (fun k => ?_) (Ev.now true)
      simp only [intrusionref07_Valid.l0]; rw [if_neg (by omega)]
  | succ d ih =>
    intro i hd hi hprev
    have hlt : i < L.length := by omega
    have hx := hq L[i] (List.getElem_mem hlt)
    rw [okR_from, if_pos hlt]
    have key : okAtR L i = true → Ev (fun k => addrset_Valid.l0 k L L (L.length : Int) ((i + 1 : Nat) : Int)) ((List.range' (i + 1) (L.length - (i + 1))).all (okAtR L)) ∧ Ev (fun k => intrusionref07_Valid.l0 k L ((i + 1 : Nat) : Int)) ((List.range' (i + 1) (L.length - (i + 1))).all (okAtR L)) := fun hb => ih (i + 1) (by omega) (by omega) (fun j hj => by
      by_cases e : j = i
      · subst e; exact hb
      · exact hprev j (by omega))
    have hdef : okAtR L i = (someB L[i] && (if h0 : 0 < i then decide (av (L[i - 1]'(by omega)).f1 + 1 < av L[i].f0) else true)) := by unfold okAtR; rw [dif_pos hlt]
    by_cases c1 : someB L[i] = true
    · have hw := (some_iff hx).1 c1
      by_cases c4 : 0 < i
      · have hp := hprev (i - 1) (by omega)
        have hpb := hq (L[i - 1]'(by omega)) (List.getElem_mem _)
        have hpw : RW (L[i - 1]'(by omega)) := by
          unfold okAtR at hp
          rw [dif_pos (by omega), Bool.and_eq_true] at hp
          exact (some_iff hpb).1 hp.1
        have hi1 := wpred i c4 (by omega)
        have p2 := hpw.2.2.2
        by_cases c5 : av (L[i - 1]'(by omega)).f1 + 1 < av L[i].f0
        · have hb : okAtR L i = true := by rw [hdef, c1, dif_pos c4, decide_eq_true c5]; rfl
          obtain ⟨e1, e2⟩ := key hb
          rw [hb, Bool.true_and]
          obtain ⟨n1, n2⟩ := (apart_iff hpw hw).2 c5
          constructor
          · refine Ev.step (fun k => ?_) e1
            simp only [addrset_Valid.l0]
            rw [if_pos (by omega), if_pos (by omega), if_pos (by omega), rd_getR L i hlt, some_eq, c1]
            simp only [Option.bind_some, if_true]
            rw [if_pos (by omega), hi1, if_pos (by omega), if_pos (by omega), rd_getR L (i - 1) (by omega), cmp_f]
            simp only [Option.bind_some]
            rw [if_neg (by have := cmp_ge' hpw.2.1.1 hw.1.1; omega), near_eq _ _ hpw hw, decide_eq_false n2]
            simp only [Option.bind_some]
            rw [if_neg (by decide), wsucc i (by omega)]
          · refine Ev.step (fun k => ?_) e2
            simp only [intrusionref07_Valid.l0]
            rw [if_pos (by omega), if_pos (by omega), rd_getR L i hlt, rsome_eq _ hx, c1]
            simp only [Option.bind_some, if_true]
            rw [if_pos (by omega), hi1, if_pos (by omega), if_pos (by omega), rd_getR L (i - 1) (by omega), before_eq _ _ hpw.2.1.1 hw.1.1, decide_eq_true n1]
            simp only [Option.bind_some, if_true]
            rw [joined_eq _ _ hpw hw, decide_eq_false n2]
            simp only [Option.bind_some]
            rw [if_neg (by decide), wsucc i (by omega)]
        · have hb : okAtR L i = false := by rw [hdef, c1, dif_pos c4, decide_eq_false c5]; rfl
          rw [hb, Bool.false_and]
          have ha := apart_iff hpw hw
          constructor
          · refine Ev.step (f := fun _ => some false) (fun k => ?_) (Ev.now false)
            simp only [addrset_Valid.l0]
            rw [if_pos (by omega), if_pos (by omega), if_pos (by omega), rd_getR L i hlt, some_eq, c1]
            simp only [Option.bind_some, if_true]
            rw [if_pos (by omega), hi1, if_pos (by omega), if_pos (by omega), rd_getR L (i - 1) (by omega), cmp_f]
            simp only [Option.bind_some]
            by_cases c6 : av (L[i - 1]'(by omega)).f1 < av L[i].f0
            · have n2 : nearP (L[i - 1]'(by omega)) L[i] := Classical.byContradiction (fun hc => c5 (ha.1 ⟨c6, hc⟩))
              rw [if_neg (by have := cmp_ge' hpw.2.1.1 hw.1.1; omega), near_eq _ _ hpw hw, decide_eq_true n2]
              rfl
            · rw [if_pos (by have := cmp_ge' hpw.2.1.1 hw.1.1; omega)]
          · refine Ev.step (f := fun _ => some false) (fun k => ?_) (Ev.now false)
            simp only [intrusionref07_Valid.l0]
            rw [if_pos (by omega), if_pos (by omega), rd_getR L i hlt, rsome_eq _ hx, c1]
            simp only [Option.bind_some, if_true]
            rw [if_pos (by omega), hi1, if_pos (by omega), if_pos (by omega), rd_getR L (i - 1) (by omega), before_eq _ _ hpw.2.1.1 hw.1.1]
            simp only [Option.bind_some]
            by_cases c6 : av (L[i - 1]'(by omega)).f1 < av L[i].f0
            · have n2 : nearP (L[i - 1]'(by omega)) L[i] := Classical.byContradiction (fun hc => c5 (ha.1 ⟨c6, hc⟩))
              rw [decide_eq_true c6, joined_eq _ _ hpw hw, decide_eq_true n2]
              rfl
            · rw [decide_eq_false c6]
              rfl
      · have hb : okAtR L i = true := by rw [hdef, c1, dif_neg c4]; rfl
        obtain ⟨e1, e2⟩ := key hb
        rw [hb, Bool.true_and]
        constructor
        · refine Ev.step (fun k => ?_) e1
          simp only [addrset_Valid.l0]
          rw [if_pos (by omega), if_pos (by omega), if_pos (by omega), rd_getR L i hlt, some_eq, c1]
          simp only [Option.bind_some, if_true]
          rw [if_neg (by omega), wsucc i (by omega)]
        · refine Ev.step (fun k => ?_) e2
          simp only [intrusionref07_Valid.l0]
          rw [if_pos (by omega), if_pos (by omega), rd_getR L i hlt, rsome_eq _ hx, c1]
          simp only [Option.bind_some, if_true]
          rw [if_neg (by omega), wsucc i (by omega)]
    · have c2 : someB L[i] = false := Bool.eq_false_iff.2 c1
      have hb : okAtR L i = false := by rw [hdef, c2]; rfl
      rw [hb, Bool.false_and]
      constructor
      · refine Ev.step (f := fun _ => some false) (fun k => ?_) (Ev.now false)
        simp only [addrset_Valid.l0]
        rw [if_pos (by omega), if_pos (by omega), if_pos (by omega), rd_getR L i hlt, some_eq, c2]
        rfl
      · refine Ev.step (f := fun _ => some false) (fun k => ?_) (Ev.now false)
        simp only [intrusionref07_Valid.l0]
        rw [if_pos (by omega), if_pos (by omega), rd_getR L i hlt, rsome_eq _ hx, c2]
        rfl
theorem aValid_ev (L : List Rg) (hl : L.length < 2932031007402) (hq : ∀ x ∈ L, RB x) : Ev (fun k => addrset_Valid.f k L) (okAllR L) ∧ Ev (fun k => intrusionref07_Valid.f k L) (okAllR L) := by
  have h := ev_aValid L hl hq L.length 0 rfl (Nat.zero_le _) (fun j hj => by omega)
  exact ⟨Ev.congr (fun k => rfl) h.1, Ev.congr (fun k => rfl) h.2⟩
theorem can_at : ∀ (L : List Rg) (i : Nat) (hi : i + 1 < L.length) (lo : Int), CanFrom lo (L.map rsp) → av (L[i]'(by omega)).f1 + 1 < av L[i + 1].f0
  | x :: y :: t, 0, _, lo, c => by
    have := c.2.2.1
    simp only [rsp] at this
    show av x.f1 + 1 < av y.f0
    omega
  | x :: t, i + 1, hi, lo, c => can_at t i (by simpa using hi) _ c.2.2
  | [], i, hi, lo, c => by simp at hi
theorem ACan.ok {P : Int → Prop} {r : List Rg} (h : ACan P r) : okAllR r = true := by
  unfold okAllR
  rw [List.all_eq_true]
  intro i hi
  have hlt : i < r.length := by
    have := List.mem_range'.1 hi
    obtain ⟨j, hj, e⟩ := this
    omega
  unfold okAtR
  rw [dif_pos hlt, Bool.and_eq_true]
  have hw := h.2.1 r[i] (List.getElem_mem hlt)
  refine ⟨(some_iff hw.b).2 hw, ?_⟩
  by_cases h0 : 0 < i
  · rw [dif_pos h0, decide_eq_true_eq]
    have := can_at r (i - 1) (by omega) 0 h.1
    simpa [show i - 1 + 1 = i from by omega] using this
  · rw [dif_neg h0]
theorem inRange_iff {a : Ad} (ha : AF a) {r : Rg} (hr : RB r) : inRange a r = true ↔ RW r ∧ av r.f0 ≤ av a ∧ av a ≤ av r.f1 := by
  unfold inRange
  simp only [Bool.and_eq_true, some_iff hr, beq_iff_eq, decide_eq_true_eq, cmp_le' hr.1 ha.1, cmp_le' ha.1 hr.2]
  constructor
  · rintro ⟨h1, h2, h3, h4⟩
    exact ⟨h1, h3, h4⟩
  · rintro ⟨h1, h3, h4⟩
    refine ⟨h1, ?_, h3, h4⟩
    rcases h1.num with ⟨_, _, n1 | n1⟩ <;> rcases ha.num with n2 | n2
    · rw [n1.1, n2.1]
    · omega
    · omega
    · rw [n1.1, n2.1]
def inA (l : List Rg) (a : Ad) : Bool := fineB a && l.any (inRange a)
theorem acontains_eq (l : List Rg) (a : Ad) : addrset_Contains.f l a.f0 a.f1 a.f2 = some (inA l a) := rfl
theorem inA_iff {l : List Rg} (hl : ∀ x ∈ l, RB x) {a : Ad} (ha : AW a) : inA l a = true ↔ AF a ∧ ASM l (av a) := by
  unfold inA ASM
  rw [Bool.and_eq_true, fine_iff ha, List.any_eq_true]
  constructor
  · rintro ⟨h1, x, hx, h2⟩
    exact ⟨h1, x, hx, (inRange_iff h1 (hl x hx)).1 h2⟩
  · rintro ⟨h1, x, hx, h2⟩
    exact ⟨h1, x, hx, (inRange_iff h1 (hl x hx)).2 h2⟩
end Go.Proofs.Ytcgfpffgiimgmaa.Q
end

section
set_option linter.unusedVariables false
set_option linter.unusedSimpArgs false
namespace Go.Proofs.Ytcgfpffgiimgmaa.Q
open Go.RowKit Go.Proofs.YtcgfpffgiimgmaaW.PrintWords Go.Proofs.YtcgfpffgiimgmaaW.PrintLast Go.Proofs.YtcgfpffgiimgmaaW.PrintMore Go.Proofs.Ytcgfpffgiimgmaa.Canon
def ipA (n : Int) : Ad := ⟨false, 0, 167772160 + n⟩
theorem ip_eq (n : Int) (h0 : 0 ≤ n) (h1 : n ≤ 1000) : intrusionlaw07_ip.f n = some (false, 0, 167772160 + n) := by
  unfold intrusionlaw07_ip.f
  rw [u64_id (by omega) (by omega)]
theorem ipA_AF (n : Int) (h0 : 0 ≤ n) (h1 : n ≤ 1000) : AF (ipA n) := by
  refine ⟨⟨?_, ?_, ?_, ?_⟩, .inr ⟨?_, ?_⟩⟩ <;> simp [ipA] <;> omega
theorem ipR_RW (a b : Int) (h0 : 0 ≤ a) (h1 : b ≤ 1000) (h : a ≤ b) : RW ⟨ipA a, ipA b⟩ := ⟨ipA_AF a h0 (by omega), ipA_AF b (by omega) h1, rfl, by show av (ipA a) ≤ av (ipA b); unfold av ipA; simp; omega⟩
theorem one_can {r : Rg} (h : RW r) : ACan (ASM [r]) [r] := ACan.self ⟨h.num.1, h.2.2.2, trivial⟩ (fun x hx => by rw [List.mem_singleton.1 hx]; exact h)
theorem aw_normal1 : Ev (fun k => addrset_Normal.f k [⟨ipA 1, ipA 4⟩]) [⟨ipA 1, ipA 4⟩] := by
  have hw := ipR_RW 1 4 (by omega) (by omega) (by omega)
  obtain ⟨r, r1, r2, _⟩ := aNormal_spec [⟨ipA 1, ipA 4⟩] (by simp) (fun x hx => by rw [List.mem_singleton.1 hx]; exact hw.b)
  rw [r2.uniq (one_can hw)] at r1
  exact r1
theorem aw_normal2 : Ev (fun k => addrset_Normal.f k [⟨ipA 2, ipA 3⟩, ⟨ipA 1, ipA 1⟩]) [⟨ipA 1, ipA 3⟩] := by
  have h1 := ipR_RW 2 3 (by omega) (by omega) (by omega)
  have h2 := ipR_RW 1 1 (by omega) (by omega) (by omega)
  have h3 := ipR_RW 1 3 (by omega) (by omega) (by omega)
  obtain ⟨r, r1, r2, _⟩ := aNormal_spec [⟨ipA 2, ipA 3⟩, ⟨ipA 1, ipA 1⟩] (by simp) (fun x hx => by
    rcases List.mem_cons.1 hx with rfl | hx
    · exact h1.b
    · rw [List.mem_singleton.1 hx]; exact h2.b)
  have e : ACan (ASM [⟨ipA 2, ipA 3⟩, ⟨ipA 1, ipA 1⟩]) [⟨ipA 1, ipA 3⟩] := (one_can h3).congr (fun n => by
    rw [asm_cons, asm_cons, asm_cons, asm_nil]
    have v : ∀ m : Int, av (ipA m) = 167772160 + m := fun m => by unfold av ipA; simp
    simp only [h1, h2, h3, true_and, or_false, v]
    omega)
  rw [r2.uniq e] at r1
  exact r1
def awP : List Px := [⟨ipA 1, 32⟩, ⟨ipA 2, 31⟩, ⟨ipA 4, 32⟩]
theorem aw_all : pAll 60 [⟨ipA 1, ipA 4⟩] [] = some (some awP) := by kernel_rfl
theorem aw_pref : Ev (fun k => addrset_Prefixes.f k [⟨ipA 1, ipA 4⟩]) awP := by
  unfold addrset_Prefixes.f
  refine Ev.bind (f := fun k x => (pAll k x []).bind fun o => some (o.getD [])) aw_normal1 ?_
  refine Ev.bind (f := fun _ o => some (o.getD [])) (Ev.of (fun k => pAll_mono k _ _) aw_all) (Ev.now _)
theorem aw_notvalid : okAllR [⟨ipA 2, ipA 3⟩, ⟨ipA 1, ipA 1⟩] = false := by decide +kernel
theorem aawake_ev : Ev (fun k => intrusionlaw07_awake.f k) true := by
  unfold intrusionlaw07_awake.f
  rw [ip_eq 1 (by omega) (by omega), ip_eq 2 (by omega) (by omega), ip_eq 3 (by omega) (by omega), ip_eq 4 (by omega) (by omega)]
  simp only [Option.bind_some]
  refine Ev.bind aw_pref (Ev.bind aw_normal2 ?_)
  refine Ev.bind (f := fun k t => _) (aSame_ev [⟨ipA 1, ipA 3⟩] (by simp)) ?_
  simp only [if_true]
  refine Ev.bind (aValid_ev [⟨ipA 2, ipA 3⟩, ⟨ipA 1, ipA 1⟩] (by simp) (fun x hx => by
    rcases List.mem_cons.1 hx with rfl | hx
    · exact (ipR_RW 2 3 (by omega) (by omega) (by omega)).b
    · rw [List.mem_singleton.1 hx]; exact (ipR_RW 1 1 (by omega) (by omega) (by omega)).b)).1 ?_
  rw [aw_notvalid]
  exact Ev.now true
end Go.Proofs.Ytcgfpffgiimgmaa.Q
end

section
namespace Go.Proofs.Ytcgfpffgiimgmaa.Q
open Go.RowKit Go.Proofs.YtcgfpffgiimgmaaW.PrintWords Go.Proofs.YtcgfpffgiimgmaaW.PrintLast Go.Proofs.YtcgfpffgiimgmaaW.PrintMore
attribute [local go_sem] max2_int min2_int max_two min_two max_three min_three max_four min_four
set_option linter.unusedVariables false
set_option linter.unusedSimpArgs false
def intrusionref07_Union.f (k : Nat) (l0 : List (S66)) (l1 : List (S66)) : Option ((List (S66))) := if ([] : List (S66)).length + l0.length < 2932031007402 then ((some (([] : List (S66)) ++ l0 : List (S66))).bind fun y938 => (if y938.length + l1.length < 2932031007402 then ((intrusionref07_Normal.f k (y938 ++ l1)).bind fun t944 => (some t944)) else (none))) else (none)
theorem intrusionref07_Union.mono : ∀ a0 a1 k, LeO (intrusionref07_Union.f k a0 a1) (intrusionref07_Union.f (k + 1) a0 a1) := by
  intro a0 a1 k
  unfold intrusionref07_Union.f
  repeat' first
      | (with_reducible exact intrusionref07_Normal.mono _ _)
      | (with_reducible exact LeO.refl _)
      | (with_reducible exact LeO.none _)
      | (with_reducible refine LeO.ite ?_ ?_)
      | (with_reducible refine LeO.bind ?_ (fun _ => ?_))
      | exact intrusionref07_Normal.mono _ _
      | exact LeO.none _
      | refine LeO.ite ?_ ?_
      | refine LeO.bind ?_ (fun _ => ?_)
end Go.Proofs.Ytcgfpffgiimgmaa.Q
end

section
namespace Go.Proofs.Ytcgfpffgiimgmaa.Q
open Go.RowKit Go.Proofs.YtcgfpffgiimgmaaW.PrintWords Go.Proofs.YtcgfpffgiimgmaaW.PrintLast Go.Proofs.YtcgfpffgiimgmaaW.PrintMore
attribute [local go_sem] max2_int min2_int max_two min_two max_three min_three max_four min_four
set_option linter.unusedVariables false
set_option linter.unusedSimpArgs false
mutual
def intrusionref07_Intersect.l0 : Nat → List (S66) → List (S66) → List (S66) → Int → Option ((List (S66)))
  | 0, _, _, _, _ => none
  | k + 1, x0, x1, x5, x6 => if x6 < (x0.length : Int) then (intrusionref07_Intersect.l1 k x0 x1 x5 x6 0) else (some x5)
def intrusionref07_Intersect.l1 : Nat → List (S66) → List (S66) → List (S66) → Int → Int → Option ((List (S66)))
  | 0, _, _, _, _, _ => none
  | k + 1, x0, x1, x5, x6, x7 => if x7 < (x1.length : Int) then (if 0 ≤ x6 then (if x6 < (x0.length : Int) then (if 0 ≤ x7 then ((intrusionref07_Some.f ((rd_T66 x0 x6).f0.f0) ((rd_T66 x0 x6).f0.f1) ((rd_T66 x0 x6).f0.f2) ((rd_T66 x0 x6).f1.f0) ((rd_T66 x0 x6).f1.f1) ((rd_T66 x0 x6).f1.f2)).bind fun t844 => (if t844 = true then ((intrusionref07_Some.f ((rd_T66 x1 x7).f0.f0) ((rd_T66 x1 x7).f0.f1) ((rd_T66 x1 x7).f0.f2) ((rd_T66 x1 x7).f1.f0) ((rd_T66 x1 x7).f1.f1) ((rd_T66 x1 x7).f1.f2)).bind fun t845 => (if t845 = true then (intrusionref07_Intersect.j2 k x0 x1 x5 x6 x7 (((rd_T66 x0 x6).f0.f0) != ((rd_T66 x1 x7).f0.f0)) ((rd_T66 x0 x6).f0.f0) ((rd_T66 x0 x6).f0.f1) ((rd_T66 x0 x6).f0.f2) ((rd_T66 x0 x6).f1.f0) ((rd_T66 x0 x6).f1.f1) ((rd_T66 x0 x6).f1.f2) ((rd_T66 x1 x7).f0.f0) ((rd_T66 x1 x7).f0.f1) ((rd_T66 x1 x7).f0.f2) ((rd_T66 x1 x7).f1.f0) ((rd_T66 x1 x7).f1.f1) ((rd_T66 x1 x7).f1.f2)) else (intrusionref07_Intersect.j2 k x0 x1 x5 x6 x7 true ((rd_T66 x0 x6).f0.f0) ((rd_T66 x0 x6).f0.f1) ((rd_T66 x0 x6).f0.f2) ((rd_T66 x0 x6).f1.f0) ((rd_T66 x0 x6).f1.f1) ((rd_T66 x0 x6).f1.f2) ((rd_T66 x1 x7).f0.f0) ((rd_T66 x1 x7).f0.f1) ((rd_T66 x1 x7).f0.f2) ((rd_T66 x1 x7).f1.f0) ((rd_T66 x1 x7).f1.f1) ((rd_T66 x1 x7).f1.f2)))) else (intrusionref07_Intersect.j2 k x0 x1 x5 x6 x7 true ((rd_T66 x0 x6).f0.f0) ((rd_T66 x0 x6).f0.f1) ((rd_T66 x0 x6).f0.f2) ((rd_T66 x0 x6).f1.f0) ((rd_T66 x0 x6).f1.f1) ((rd_T66 x0 x6).f1.f2) ((rd_T66 x1 x7).f0.f0) ((rd_T66 x1 x7).f0.f1) ((rd_T66 x1 x7).f0.f2) ((rd_T66 x1 x7).f1.f0) ((rd_T66 x1 x7).f1.f1) ((rd_T66 x1 x7).f1.f2)))) else (none)) else (none)) else (none)) else (intrusionref07_Intersect.l0 k x0 x1 x5 (wrap64 (x6 + 1)))
def intrusionref07_Intersect.j2 : Nat → List (S66) → List (S66) → List (S66) → Int → Int → Bool → Bool → Int → Int → Bool → Int → Int → Bool → Int → Int → Bool → Int → Int → Option ((List (S66)))
  | 0, _, _, _, _, _, _, _, _, _, _, _, _, _, _, _, _, _, _ => none
  | k + 1, x0, x1, x5, x6, x7, x46, x843000, x843001, x843002, x843003, x843004, x843005, x844000, x844001, x844002, x844003, x844004, x844005 => if x46 = true then (intrusionref07_Intersect.l1 k x0 x1 x5 x6 (wrap64 (x7 + 1))) else ((intrusionref07_Before.f x843000 x843001 x843002 x844000 x844001 x844002).bind fun t846 => (if t846 = true then (intrusionref07_Intersect.j3 k x0 x1 x5 x6 x7 x844000 x844001 x844002 x843003 x843004 x843005 x844000 x844001 x844002 x844003 x844004 x844005) else (intrusionref07_Intersect.j3 k x0 x1 x5 x6 x7 x843000 x843001 x843002 x843003 x843004 x843005 x844000 x844001 x844002 x844003 x844004 x844005)))
def intrusionref07_Intersect.j3 : Nat → List (S66) → List (S66) → List (S66) → Int → Int → Bool → Int → Int → Bool → Int → Int → Bool → Int → Int → Bool → Int → Int → Option ((List (S66)))
  | 0, _, _, _, _, _, _, _, _, _, _, _, _, _, _, _, _, _ => none
  | k + 1, x0, x1, x5, x6, x7, x843000, x843001, x843002, x843003, x843004, x843005, x844000, x844001, x844002, x844003, x844004, x844005 => (intrusionref07_Before.f x844003 x844004 x844005 x843003 x843004 x843005).bind fun t847 => (if t847 = true then (intrusionref07_Intersect.j4 k x0 x1 x5 x6 x7 x843000 x843001 x843002 x844003 x844004 x844005) else (intrusionref07_Intersect.j4 k x0 x1 x5 x6 x7 x843000 x843001 x843002 x843003 x843004 x843005))
def intrusionref07_Intersect.j4 : Nat → List (S66) → List (S66) → List (S66) → Int → Int → Bool → Int → Int → Bool → Int → Int → Option ((List (S66)))
  | 0, _, _, _, _, _, _, _, _, _, _, _ => none
  | k + 1, x0, x1, x5, x6, x7, x843000, x843001, x843002, x843003, x843004, x843005 => (intrusionref07_Some.f x843000 x843001 x843002 x843003 x843004 x843005).bind fun t848 => (if t848 = true then ((intrusionref07_add.f k x5 x843000 x843001 x843002 x843003 x843004 x843005).bind fun t849 => (intrusionref07_Intersect.l1 k x0 x1 t849 x6 (wrap64 (x7 + 1)))) else (intrusionref07_Intersect.l1 k x0 x1 x5 x6 (wrap64 (x7 + 1))))
end
def intrusionref07_Intersect.f (k : Nat) (l0 : List (S66)) (l1 : List (S66)) : Option ((List (S66))) := intrusionref07_Intersect.l0 k l0 l1 ([] : List (S66)) 0
theorem intrusionref07_Intersect.mono_l : ∀ k, (∀ y0 y1 y2 y3, LeO (intrusionref07_Intersect.l0 k y0 y1 y2 y3) (intrusionref07_Intersect.l0 (k + 1) y0 y1 y2 y3)) ∧ (∀ y0 y1 y2 y3 y4, LeO (intrusionref07_Intersect.l1 k y0 y1 y2 y3 y4) (intrusionref07_Intersect.l1 (k + 1) y0 y1 y2 y3 y4)) ∧ (∀ y0 y1 y2 y3 y4 y5 y6 y7 y8 y9 y10 y11 y12 y13 y14 y15 y16 y17, LeO (intrusionref07_Intersect.j2 k y0 y1 y2 y3 y4 y5 y6 y7 y8 y9 y10 y11 y12 y13 y14 y15 y16 y17) (intrusionref07_Intersect.j2 (k + 1) y0 y1 y2 y3 y4 y5 y6 y7 y8 y9 y10 y11 y12 y13 y14 y15 y16 y17)) ∧ (∀ y0 y1 y2 y3 y4 y5 y6 y7 y8 y9 y10 y11 y12 y13 y14 y15 y16, LeO (intrusionref07_Intersect.j3 k y0 y1 y2 y3 y4 y5 y6 y7 y8 y9 y10 y11 y12 y13 y14 y15 y16) (intrusionref07_Intersect.j3 (k + 1) y0 y1 y2 y3 y4 y5 y6 y7 y8 y9 y10 y11 y12 y13 y14 y15 y16)) ∧ (∀ y0 y1 y2 y3 y4 y5 y6 y7 y8 y9 y10, LeO (intrusionref07_Intersect.j4 k y0 y1 y2 y3 y4 y5 y6 y7 y8 y9 y10) (intrusionref07_Intersect.j4 (k + 1) y0 y1 y2 y3 y4 y5 y6 y7 y8 y9 y10))
  | 0 => ⟨fun _ _ _ _ r h => by simp [intrusionref07_Intersect.l0] at h, fun _ _ _ _ _ r h => by simp [intrusionref07_Intersect.l1] at h, fun _ _ _ _ _ _ _ _ _ _ _ _ _ _ _ _ _ _ r h => by simp [intrusionref07_Intersect.j2] at h, fun _ _ _ _ _ _ _ _ _ _ _ _ _ _ _ _ _ r h => by simp [intrusionref07_Intersect.j3] at h, fun _ _ _ _ _ _ _ _ _ _ _ r h => by simp [intrusionref07_Intersect.j4] at h⟩
  | k + 1 => by
    obtain ⟨ih0, ih1, ih2, ih3, ih4⟩ := intrusionref07_Intersect.mono_l k
    refine ⟨?_, ?_, ?_, ?_, ?_⟩
    · intro y0 y1 y2 y3
      unfold intrusionref07_Intersect.l0
      repeat' first
      | (with_reducible exact ih0 _ _ _ _)
      | (with_reducible exact ih1 _ _ _ _ _)
      | (with_reducible exact ih2 _ _ _ _ _ _ _ _ _ _ _ _ _ _ _ _ _ _)
      | (with_reducible exact ih3 _ _ _ _ _ _ _ _ _ _ _ _ _ _ _ _ _)
      | (with_reducible exact ih4 _ _ _ _ _ _ _ _ _ _ _)
      | (with_reducible exact intrusionref07_add.mono _ _ _ _ _ _ _ _)
      | (with_reducible exact LeO.refl _)
      | (with_reducible exact LeO.none _)
      | (with_reducible refine LeO.ite ?_ ?_)
      | (with_reducible refine LeO.bind ?_ (fun _ => ?_))
      | exact ih0 _ _ _ _
      | exact ih1 _ _ _ _ _
      | exact ih2 _ _ _ _ _ _ _ _ _ _ _ _ _ _ _ _ _ _
      | exact ih3 _ _ _ _ _ _ _ _ _ _ _ _ _ _ _ _ _
      | exact ih4 _ _ _ _ _ _ _ _ _ _ _
      | exact intrusionref07_add.mono _ _ _ _ _ _ _ _
      | exact LeO.none _
      | refine LeO.ite ?_ ?_
      | refine LeO.bind ?_ (fun _ => ?_)
    · intro y0 y1 y2 y3 y4
      unfold intrusionref07_Intersect.l1
      repeat' first
      | (with_reducible exact ih0 _ _ _ _)
      | (with_reducible exact ih1 _ _ _ _ _)
      | (with_reducible exact ih2 _ _ _ _ _ _ _ _ _ _ _ _ _ _ _ _ _ _)
      | (with_reducible exact ih3 _ _ _ _ _ _ _ _ _ _ _ _ _ _ _ _ _)
      | (with_reducible exact ih4 _ _ _ _ _ _ _ _ _ _ _)
      | (with_reducible exact intrusionref07_add.mono _ _ _ _ _ _ _ _)
      | (with_reducible exact LeO.refl _)
      | (with_reducible exact LeO.none _)
      | (with_reducible refine LeO.ite ?_ ?_)
      | (with_reducible refine LeO.bind ?_ (fun _ => ?_))
      | exact ih0 _ _ _ _
      | exact ih1 _ _ _ _ _
      | exact ih2 _ _ _ _ _ _ _ _ _ _ _ _ _ _ _ _ _ _
      | exact ih3 _ _ _ _ _ _ _ _ _ _ _ _ _ _ _ _ _
      | exact ih4 _ _ _ _ _ _ _ _ _ _ _
      | exact intrusionref07_add.mono _ _ _ _ _ _ _ _
      | exact LeO.none _
      | refine LeO.ite ?_ ?_
      | refine LeO.bind ?_ (fun _ => ?_)
    · intro y0 y1 y2 y3 y4 y5 y6 y7 y8 y9 y10 y11 y12 y13 y14 y15 y16 y17
      unfold intrusionref07_Intersect.j2
      repeat' first
      | (with_reducible exact ih0 _ _ _ _)
      | (with_reducible exact ih1 _ _ _ _ _)
      | (with_reducible exact ih2 _ _ _ _ _ _ _ _ _ _ _ _ _ _ _ _ _ _)
      | (with_reducible exact ih3 _ _ _ _ _ _ _ _ _ _ _ _ _ _ _ _ _)
      | (with_reducible exact ih4 _ _ _ _ _ _ _ _ _ _ _)
      | (with_reducible exact intrusionref07_add.mono _ _ _ _ _ _ _ _)
      | (with_reducible exact LeO.refl _)
      | (with_reducible exact LeO.none _)
      | (with_reducible refine LeO.ite ?_ ?_)
      | (with_reducible refine LeO.bind ?_ (fun _ => ?_))
      | exact ih0 _ _ _ _
      | exact ih1 _ _ _ _ _
      | exact ih2 _ _ _ _ _ _ _ _ _ _ _ _ _ _ _ _ _ _
      | exact ih3 _ _ _ _ _ _ _ _ _ _ _ _ _ _ _ _ _
      | exact ih4 _ _ _ _ _ _ _ _ _ _ _
      | exact intrusionref07_add.mono _ _ _ _ _ _ _ _
      | exact LeO.none _
      | refine LeO.ite ?_ ?_
      | refine LeO.bind ?_ (fun _ => ?_)
    · intro y0 y1 y2 y3 y4 y5 y6 y7 y8 y9 y10 y11 y12 y13 y14 y15 y16
      unfold intrusionref07_Intersect.j3
      repeat' first
      | (with_reducible exact ih0 _ _ _ _)
      | (with_reducible exact ih1 _ _ _ _ _)
      | (with_reducible exact ih2 _ _ _ _ _ _ _ _ _ _ _ _ _ _ _ _ _ _)
      | (with_reducible exact ih3 _ _ _ _ _ _ _ _ _ _ _ _ _ _ _ _ _)
      | (with_reducible exact ih4 _ _ _ _ _ _ _ _ _ _ _)
      | (with_reducible exact intrusionref07_add.mono _ _ _ _ _ _ _ _)
      | (with_reducible exact LeO.refl _)
      | (with_reducible exact LeO.none _)
      | (with_reducible refine LeO.ite ?_ ?_)
      | (with_reducible refine LeO.bind ?_ (fun _ => ?_))
      | exact ih0 _ _ _ _
      | exact ih1 _ _ _ _ _
      | exact ih2 _ _ _ _ _ _ _ _ _ _ _ _ _ _ _ _ _ _
      | exact ih3 _ _ _ _ _ _ _ _ _ _ _ _ _ _ _ _ _
      | exact ih4 _ _ _ _ _ _ _ _ _ _ _
      | exact intrusionref07_add.mono _ _ _ _ _ _ _ _
      | exact LeO.none _
      | refine LeO.ite ?_ ?_
      | refine LeO.bind ?_ (fun _ => ?_)
    · intro y0 y1 y2 y3 y4 y5 y6 y7 y8 y9 y10
      unfold intrusionref07_Intersect.j4
      repeat' first
      | (with_reducible exact ih0 _ _ _ _)
      | (with_reducible exact ih1 _ _ _ _ _)
      | (with_reducible exact ih2 _ _ _ _ _ _ _ _ _ _ _ _ _ _ _ _ _ _)
      | (with_reducible exact ih3 _ _ _ _ _ _ _ _ _ _ _ _ _ _ _ _ _)
      | (with_reducible exact ih4 _ _ _ _ _ _ _ _ _ _ _)
      | (with_reducible exact intrusionref07_add.mono _ _ _ _ _ _ _ _)
      | (with_reducible exact LeO.refl _)
      | (with_reducible exact LeO.none _)
      | (with_reducible refine LeO.ite ?_ ?_)
      | (with_reducible refine LeO.bind ?_ (fun _ => ?_))
      | exact ih0 _ _ _ _
      | exact ih1 _ _ _ _ _
      | exact ih2 _ _ _ _ _ _ _ _ _ _ _ _ _ _ _ _ _ _
      | exact ih3 _ _ _ _ _ _ _ _ _ _ _ _ _ _ _ _ _
      | exact ih4 _ _ _ _ _ _ _ _ _ _ _
      | exact intrusionref07_add.mono _ _ _ _ _ _ _ _
      | exact LeO.none _
      | refine LeO.ite ?_ ?_
      | refine LeO.bind ?_ (fun _ => ?_)
theorem intrusionref07_Intersect.mono : ∀ a0 a1 k, LeO (intrusionref07_Intersect.f k a0 a1) (intrusionref07_Intersect.f (k + 1) a0 a1) := by
  intro a0 a1 k
  obtain ⟨ih0, ih1, ih2, ih3, ih4⟩ := intrusionref07_Intersect.mono_l k
  unfold intrusionref07_Intersect.f
  repeat' first
      | (with_reducible exact ih0 _ _ _ _)
      | (with_reducible exact ih1 _ _ _ _ _)
      | (with_reducible exact ih2 _ _ _ _ _ _ _ _ _ _ _ _ _ _ _ _ _ _)
      | (with_reducible exact ih3 _ _ _ _ _ _ _ _ _ _ _ _ _ _ _ _ _)
      | (with_reducible exact ih4 _ _ _ _ _ _ _ _ _ _ _)
      | (with_reducible exact intrusionref07_add.mono _ _ _ _ _ _ _ _)
      | (with_reducible exact LeO.refl _)
      | (with_reducible exact LeO.none _)
      | (with_reducible refine LeO.ite ?_ ?_)
      | (with_reducible refine LeO.bind ?_ (fun _ => ?_))
      | exact ih0 _ _ _ _
      | exact ih1 _ _ _ _ _
      | exact ih2 _ _ _ _ _ _ _ _ _ _ _ _ _ _ _ _ _ _
      | exact ih3 _ _ _ _ _ _ _ _ _ _ _ _ _ _ _ _ _
      | exact ih4 _ _ _ _ _ _ _ _ _ _ _
      | exact intrusionref07_add.mono _ _ _ _ _ _ _ _
      | exact LeO.none _
      | refine LeO.ite ?_ ?_
      | refine LeO.bind ?_ (fun _ => ?_)
end Go.Proofs.Ytcgfpffgiimgmaa.Q
end

section
set_option linter.unusedVariables false
set_option linter.unusedSimpArgs false
namespace Go.Proofs.Ytcgfpffgiimgmaa.Q
open Go.RowKit Go.Proofs.YtcgfpffgiimgmaaW.PrintWords Go.Proofs.YtcgfpffgiimgmaaW.PrintLast Go.Proofs.YtcgfpffgiimgmaaW.PrintMore Go.Proofs.Ytcgfpffgiimgmaa.Canon
theorem ev_concatR (a b : List Rg) (ha : a.length < 1000000000000) (hb : b.length < 1000000000000) : Ev (fun k => slices_Concat_Range.f k [a, b]) (a ++ b) := by
  refine ⟨6, fun k hk => ?_⟩
  obtain ⟨m, rfl⟩ : ∃ m, k = m + 6 := ⟨k - 6, by omega⟩
  show slices_Concat_Range.f (m + 6) [a, b] = _
  have w1 : wrap64 (0 + 1) = 1 := wid (by omega) (by omega)
  have w2 : wrap64 (1 + 1) = 2 := wid (by omega) (by omega)
  have r0 : rd_L7 [a, b] 0 = a := rfl
  have r1 : rd_L7 [a, b] 1 = b := rfl
  unfold slices_Concat_Range.f
  simp only [slices_Concat_Range.l0, List.length_cons, List.length_nil]
  rw [if_pos (by decide), if_pos (by decide), if_pos (by decide), r0, wid (x := 0 + (a.length : Int)) (by omega) (by omega), if_neg (by omega), w1, if_pos (by decide), if_pos (by decide), if_pos (by decide), r1, wid (x := 0 + (a.length : Int) + (b.length : Int)) (by omega) (by omega), if_neg (by omega), w2, if_neg (by decide)]
  unfold grow_Range.f
  rw [if_pos ⟨by omega, by omega⟩]
  simp only [Option.bind_some, slices_Concat_Range.l1, List.length_cons, List.length_nil]
  rw [if_pos (by decide), if_pos (by decide), if_pos (by decide), r0, if_pos (by omega), w1, if_pos (by decide), if_pos (by decide), if_pos (by decide), r1, if_pos (by rw [List.length_append, List.length_nil]; omega), w2, if_neg (by decide)]
  simp
theorem rb_append {a b : List Rg} (ha : ∀ x ∈ a, RB x) (hb : ∀ x ∈ b, RB x) : ∀ x ∈ a ++ b, RB x := fun x hx => (List.mem_append.1 hx).elim (ha x) (hb x)
theorem aUnion_spec (a b : List Rg) (ha : a.length < 1000000) (hb : b.length < 1000000) (qa : ∀ x ∈ a, RB x) (qb : ∀ x ∈ b, RB x) : ∃ r, Ev (fun k => addrset_Union.f k a b) r ∧ ACan (fun n => ASM a n ∨ ASM b n) r ∧ r.length ≤ a.length + b.length := by
  obtain ⟨r, h1, h2, h3⟩ := aNormal_spec (a ++ b) (by rw [List.length_append]; omega) (rb_append qa qb)
  refine ⟨r, Ev.congr (fun k => rfl) (Ev.bind (ev_concatR a b (by omega) (by omega)) (Ev.bind h1 (Ev.now _))), h2.congr (fun n => asm_append a b n), by rw [List.length_append] at h3; exact h3⟩
def inR (r : Rg) (n : Int) : Prop := av r.f0 ≤ n ∧ n ≤ av r.f1
theorem fam_of_both {r s : Rg} (hr : RW r) (hs : RW s) {n : Int} (h1 : inR r n) (h2 : inR s n) : r.f0.f0 = s.f0.f0 := by
  unfold inR at h1 h2
  rcases hr.num with ⟨_, _, n1 | n1⟩ <;> rcases hs.num with ⟨_, _, n2 | n2⟩
  · rw [n1.1, n2.1]
  · omega
  · omega
  · rw [n1.1, n2.1]
theorem both_spec {r s z : Rg} (hr : RW r) (hs : RW s) (hf : r.f0.f0 = s.f0.f0) (h0 : z.f0 = r.f0 ∨ z.f0 = s.f0) (h1 : z.f1 = r.f1 ∨ z.f1 = s.f1) (g0 : av r.f0 ≤ av z.f0 ∧ av s.f0 ≤ av z.f0) (g1 : av z.f1 ≤ av r.f1 ∧ av z.f1 ≤ av s.f1) : RB z ∧ ∀ n, (RW z ∧ inR z n) ↔ inR r n ∧ inR s n := by
  have b0 : AF z.f0 ∧ z.f0.f0 = r.f0.f0 := by
    rcases h0 with e | e
    · rw [e]; exact ⟨hr.1, rfl⟩
    · rw [e]; exact ⟨hs.1, hf.symm⟩
  have b1 : AF z.f1 ∧ z.f1.f0 = r.f0.f0 := by
    rcases h1 with e | e
    · rw [e]; exact ⟨hr.2.1, hr.2.2.1.symm⟩
    · rw [e]; exact ⟨hs.2.1, hs.2.2.1.symm.trans hf.symm⟩
  refine ⟨⟨b0.1.1, b1.1.1⟩, fun n => ?_⟩
  unfold inR
  constructor
  · rintro ⟨_, h2, h3⟩
    exact ⟨⟨by omega, by omega⟩, ⟨by omega, by omega⟩⟩
  · rintro ⟨⟨h2, h3⟩, ⟨h4, h5⟩⟩
    have e0 : av z.f0 ≤ n := by rcases h0 with e | e <;> rw [e] <;> assumption
    have e1 : n ≤ av z.f1 := by rcases h1 with e | e <;> rw [e] <;> assumption
    exact ⟨⟨b0.1, b1.1, b0.2.trans b1.2.symm, by omega⟩, e0, e1⟩
theorem bothR_spec {r s : Rg} (hr : RW r) (hs : RW s) (hf : r.f0.f0 = s.f0.f0) : RB (bothR r s) ∧ ∀ n, (RW (bothR r s) ∧ inR (bothR r s) n) ↔ inR r n ∧ inR s n := by
  obtain ⟨g1, g2, g3⟩ := greaterA_spec hr.1.1 hs.1.1
  obtain ⟨l1, l2, l3⟩ := lessA_spec hr.2.1.1 hs.2.1.1
  exact both_spec hr hs hf g1 l1 ⟨g2, g3⟩ ⟨l2, l3⟩
theorem asm_addIf {xs : List Rg} {z : Rg} (hz : RB z) (n : Int) : ASM (addIf xs z) n ↔ ASM xs n ∨ (RW z ∧ inR z n) := by
  unfold addIf
  by_cases h : someB z = true
  · rw [if_pos h, asm_append, asm_cons, asm_nil, or_false]
    rfl
  · rw [if_neg h]
    constructor
    · exact .inl
    · rintro (g | g)
      · exact g
      · exact absurd ((some_iff hz).2 g.1) h
theorem interOne_spec {r s : Rg} (hr : RW r) (hs : RW s) (xs : List Rg) (hx : ∀ x ∈ xs, RB x) : (∀ x ∈ interOne r xs s, RB x) ∧ ∀ n, ASM (interOne r xs s) n ↔ ASM xs n ∨ (inR r n ∧ inR s n) := by
  unfold interOne
  by_cases hf : r.f0.f0 = s.f0.f0
  · rw [if_pos hf]
    obtain ⟨b1, b2⟩ := bothR_spec hr hs hf
    refine ⟨fun x h => ?_, fun n => by rw [asm_addIf b1, b2]⟩
    unfold addIf at h
    split at h
    · rcases List.mem_append.1 h with h | h
      · exact hx x h
      · rw [List.mem_singleton.1 h]; exact b1
    · exact hx x h
  · rw [if_neg hf]
    exact ⟨hx, fun n => ⟨.inl, fun h => h.elim id (fun g => absurd (fam_of_both hr hs g.1 g.2) hf)⟩⟩
theorem interRow_spec {r : Rg} (hr : RW r) : ∀ (y xs : List Rg), (∀ x ∈ y, RW x) → (∀ x ∈ xs, RB x) → (∀ x ∈ y.foldl (interOne r) xs, RB x) ∧ ∀ n, ASM (y.foldl (interOne r) xs) n ↔ ASM xs n ∨ (inR r n ∧ ASM y n)
  | [], xs, _, hx => ⟨hx, fun n => by simp [asm_nil]⟩
  | s :: t, xs, hy, hx => by
    have hs := hy s (List.mem_cons_self ..)
    obtain ⟨a1, a2⟩ := interOne_spec hr hs xs hx
    obtain ⟨b1, b2⟩ := interRow_spec hr t _ (fun z hz => hy z (List.mem_cons_of_mem _ hz)) a1
    refine ⟨b1, fun n => ?_⟩
    rw [List.foldl_cons, b2, a2, asm_cons, or_assoc]
    refine or_congr_right ?_
    unfold inR
    constructor
    · rintro (⟨h1, h2⟩ | ⟨h1, h2⟩)
      · exact ⟨h1, .inl ⟨hs, h2⟩⟩
      · exact ⟨h1, .inr h2⟩
    · rintro ⟨h1, h2 | h2⟩
      · exact .inl ⟨h1, h2.2⟩
      · exact .inr ⟨h1, h2⟩
theorem interAll_spec (y : List Rg) (hy : ∀ x ∈ y, RW x) : ∀ (x xs : List Rg), (∀ z ∈ x, RW z) → (∀ z ∈ xs, RB z) → (∀ z ∈ x.foldl (interRow y) xs, RB z) ∧ ∀ n, ASM (x.foldl (interRow y) xs) n ↔ ASM xs n ∨ (ASM x n ∧ ASM y n)
  | [], xs, _, hx => ⟨hx, fun n => by simp [asm_nil]⟩
  | r :: t, xs, hr, hx => by
    have h0 := hr r (List.mem_cons_self ..)
    obtain ⟨a1, a2⟩ := interRow_spec h0 y xs hy hx
    obtain ⟨b1, b2⟩ := interAll_spec y hy t (interRow y xs r) (fun z hz => hr z (List.mem_cons_of_mem _ hz)) a1
    refine ⟨b1, fun n => ?_⟩
    rw [List.foldl_cons, b2]
    show (ASM (y.foldl (interOne r) xs) n ∨ _) ↔ _
    rw [a2, asm_cons, or_assoc]
    refine or_congr_right ?_
    constructor
    · rintro (⟨h1, h2⟩ | ⟨h1, h2⟩)
      · exact ⟨.inl ⟨h0, h1⟩, h2⟩
      · exact ⟨.inr h1, h2⟩
    · rintro ⟨h1 | h1, h2⟩
      · exact .inl ⟨h1.2, h2⟩
      · exact .inr ⟨h1, h2⟩
theorem aInter_spec (a b : List Rg) (ha : a.length < 1000000) (hb : b.length < 1000000) (qa : ∀ x ∈ a, RB x) (qb : ∀ x ∈ b, RB x) : ∃ r, Ev (fun k => addrset_Intersect.f k a b) r ∧ ACan (fun n => ASM a n ∧ ASM b n) r ∧ r.length ≤ a.length * b.length := by
  obtain ⟨x, x1, x2, x3⟩ := aNormal_spec a (by omega) qa
  obtain ⟨y, y1, y2, y3⟩ := aNormal_spec b (by omega) qb
  have hm : x.length * y.length ≤ a.length * b.length := Nat.mul_le_mul x3 y3
  have hm2 : a.length * b.length ≤ 1000000 * 1000000 := Nat.mul_le_mul (by omega) (by omega)
  obtain ⟨c1, c2⟩ := interAll_spec y y2.2.1 x [] x2.2.1 (by simp)
  have hle := interAll_le y x []
  simp only [List.length_nil, Nat.zero_add] at hle
  obtain ⟨r, r1, r2, r3⟩ := aNormal_spec (x.foldl (interRow y) []) (by omega) c1
  refine ⟨r, ?_, r2.congr (fun n => ?_), by omega⟩
  · refine Ev.bind (f := fun k y => (addrset_Normal.f k a).bind fun x => if x.length * y.length < 2932031007402 then addrset_Normal.f k (x.foldl (interRow y) []) else none) y1 ?_
    refine Ev.bind (f := fun k x => if x.length * y.length < 2932031007402 then addrset_Normal.f k (x.foldl (interRow y) []) else none) x1 ?_
    refine Ev.congr (fun k => ?_) r1
    rw [if_pos (by omega)]
  · rw [c2, asm_nil, false_or, x2.2.2, y2.2.2]
end Go.Proofs.Ytcgfpffgiimgmaa.Q
end

section
namespace Go.Proofs.Ytcgfpffgiimgmaa.Q
open Go.RowKit Go.Proofs.YtcgfpffgiimgmaaW.PrintWords Go.Proofs.YtcgfpffgiimgmaaW.PrintLast Go.Proofs.YtcgfpffgiimgmaaW.PrintMore
attribute [local go_sem] max2_int min2_int max_two min_two max_three min_three max_four min_four
set_option linter.unusedVariables false
set_option linter.unusedSimpArgs false
def intrusionref07_All.f  : Option ((List (S66))) := some (([(⟨(⟨false, 0, 0⟩ : S36), (⟨false, 0, 4294967295⟩ : S36)⟩ : S66), (⟨(⟨true, 0, 0⟩ : S36), (⟨true, 18446744073709551615, 18446744073709551615⟩ : S36)⟩ : S66)] : List (S66)))
end Go.Proofs.Ytcgfpffgiimgmaa.Q
end

section
namespace Go.Proofs.Ytcgfpffgiimgmaa.Q
open Go.RowKit Go.Proofs.YtcgfpffgiimgmaaW.PrintWords Go.Proofs.YtcgfpffgiimgmaaW.PrintLast Go.Proofs.YtcgfpffgiimgmaaW.PrintMore
attribute [local go_sem] max2_int min2_int max_two min_two max_three min_three max_four min_four
set_option linter.unusedVariables false
set_option linter.unusedSimpArgs false
mutual
def intrusionref07_Complement.l0 : Nat → List (S66) → List (S66) → List (S66) → Int → Option ((List (S66)))
  | 0, _, _, _, _ => none
  | k + 1, x3, x4, x5, x6 => if x6 < 2 then (if 0 ≤ x6 then (if x6 < (x4.length : Int) then (intrusionref07_Complement.l1 k x3 x4 x5 x6 false 0 ((rd_T66 x4 x6).f0.f0) ((rd_T66 x4 x6).f0.f1) ((rd_T66 x4 x6).f0.f2)) else (none)) else (none)) else (some x3)
def intrusionref07_Complement.l1 : Nat → List (S66) → List (S66) → List (S66) → Int → Bool → Int → Bool → Int → Int → Option ((List (S66)))
  | 0, _, _, _, _, _, _, _, _, _ => none
  | k + 1, x3, x4, x5, x6, x8, x9, x860000, x860001, x860002 => if x9 < (x5.length : Int) then (if 0 ≤ x9 then (if (((rd_T66 x5 x9).f0.f0) != x860000) = true then (intrusionref07_Complement.l1 k x3 x4 x5 x6 x8 (wrap64 (x9 + 1)) x860000 x860001 x860002) else ((intrusionref07_Before.f x860000 x860001 x860002 ((rd_T66 x5 x9).f0.f0) ((rd_T66 x5 x9).f0.f1) ((rd_T66 x5 x9).f0.f2)).bind fun t866 => (if t866 = true then ((intrusionref07_Ahead.f ((rd_T66 x5 x9).f0.f0) ((rd_T66 x5 x9).f0.f1) ((rd_T66 x5 x9).f0.f2)).bind fun bt868 => (if x3.length < 2932031007402 then (intrusionref07_Complement.j2 k (x3 ++ [(⟨(⟨x860000, x860001, x860002⟩ : S36), (⟨bt868.1, bt868.2.1, bt868.2.2⟩ : S36)⟩ : S66)]) x4 x5 x6 x9) else (none))) else (intrusionref07_Complement.j2 k x3 x4 x5 x6 x9)))) else (none)) else (if x8 = true then (intrusionref07_Complement.l0 k x3 x4 x5 (wrap64 (x6 + 1))) else (if 0 ≤ x6 then (if x6 < (x4.length : Int) then (if x3.length < 2932031007402 then (intrusionref07_Complement.l0 k (x3 ++ [(⟨(⟨x860000, x860001, x860002⟩ : S36), (⟨(rd_T66 x4 x6).f1.f0, (rd_T66 x4 x6).f1.f1, (rd_T66 x4 x6).f1.f2⟩ : S36)⟩ : S66)]) x4 x5 (wrap64 (x6 + 1))) else (none)) else (none)) else (none)))
def intrusionref07_Complement.j2 : Nat → List (S66) → List (S66) → List (S66) → Int → Int → Option ((List (S66)))
  | 0, _, _, _, _, _ => none
  | k + 1, x3, x4, x5, x6, x9 => if 0 ≤ x9 then (if x9 < (x5.length : Int) then ((intrusionref07_Last.f ((rd_T66 x5 x9).f1.f0) ((rd_T66 x5 x9).f1.f1) ((rd_T66 x5 x9).f1.f2)).bind fun t875 => ((intrusionref07_After.f ((rd_T66 x5 x9).f1.f0) ((rd_T66 x5 x9).f1.f1) ((rd_T66 x5 x9).f1.f2)).bind fun bt877 => (if t875 = true then (if 0 ≤ x6 then (if x6 < (x4.length : Int) then (intrusionref07_Complement.l1 k x3 x4 x5 x6 t875 (wrap64 (x9 + 1)) ((rd_T66 x4 x6).f1.f0) ((rd_T66 x4 x6).f1.f1) ((rd_T66 x4 x6).f1.f2)) else (none)) else (none)) else (intrusionref07_Complement.l1 k x3 x4 x5 x6 t875 (wrap64 (x9 + 1)) bt877.1 bt877.2.1 bt877.2.2)))) else (none)) else (none)
end
def intrusionref07_Complement.f (k : Nat) (l0 : List (S66)) : Option ((List (S66))) := (intrusionref07_All.f).bind fun t852 => ((intrusionref07_Normal.f k l0).bind fun t855 => (intrusionref07_Complement.l0 k ([] : List (S66)) t852 t855 0))
theorem intrusionref07_Complement.mono_l : ∀ k, (∀ y0 y1 y2 y3, LeO (intrusionref07_Complement.l0 k y0 y1 y2 y3) (intrusionref07_Complement.l0 (k + 1) y0 y1 y2 y3)) ∧ (∀ y0 y1 y2 y3 y4 y5 y6 y7 y8, LeO (intrusionref07_Complement.l1 k y0 y1 y2 y3 y4 y5 y6 y7 y8) (intrusionref07_Complement.l1 (k + 1) y0 y1 y2 y3 y4 y5 y6 y7 y8)) ∧ (∀ y0 y1 y2 y3 y4, LeO (intrusionref07_Complement.j2 k y0 y1 y2 y3 y4) (intrusionref07_Complement.j2 (k + 1) y0 y1 y2 y3 y4))
  | 0 => ⟨fun _ _ _ _ r h => by simp [intrusionref07_Complement.l0] at h, fun _ _ _ _ _ _ _ _ _ r h => by simp [intrusionref07_Complement.l1] at h, fun _ _ _ _ _ r h => by simp [intrusionref07_Complement.j2] at h⟩
  | k + 1 => by
    obtain ⟨ih0, ih1, ih2⟩ := intrusionref07_Complement.mono_l k
    refine ⟨?_, ?_, ?_⟩
    · intro y0 y1 y2 y3
      unfold intrusionref07_Complement.l0
      repeat' first
      | (with_reducible exact ih0 _ _ _ _)
      | (with_reducible exact ih1 _ _ _ _ _ _ _ _ _)
      | (with_reducible exact ih2 _ _ _ _ _)
      | (with_reducible exact intrusionref07_Normal.mono _ _)
      | (with_reducible exact LeO.refl _)
      | (with_reducible exact LeO.none _)
      | (with_reducible refine LeO.ite ?_ ?_)
      | (with_reducible refine LeO.bind ?_ (fun _ => ?_))
      | exact ih0 _ _ _ _
      | exact ih1 _ _ _ _ _ _ _ _ _
      | exact ih2 _ _ _ _ _
      | exact intrusionref07_Normal.mono _ _
      | exact LeO.none _
      | refine LeO.ite ?_ ?_
      | refine LeO.bind ?_ (fun _ => ?_)
    · intro y0 y1 y2 y3 y4 y5 y6 y7 y8
      unfold intrusionref07_Complement.l1
      repeat' first
      | (with_reducible exact ih0 _ _ _ _)
      | (with_reducible exact ih1 _ _ _ _ _ _ _ _ _)
      | (with_reducible exact ih2 _ _ _ _ _)
      | (with_reducible exact intrusionref07_Normal.mono _ _)
      | (with_reducible exact LeO.refl _)
      | (with_reducible exact LeO.none _)
      | (with_reducible refine LeO.ite ?_ ?_)
      | (with_reducible refine LeO.bind ?_ (fun _ => ?_))
      | exact ih0 _ _ _ _
      | exact ih1 _ _ _ _ _ _ _ _ _
      | exact ih2 _ _ _ _ _
      | exact intrusionref07_Normal.mono _ _
      | exact LeO.none _
      | refine LeO.ite ?_ ?_
      | refine LeO.bind ?_ (fun _ => ?_)
    · intro y0 y1 y2 y3 y4
      unfold intrusionref07_Complement.j2
      repeat' first
      | (with_reducible exact ih0 _ _ _ _)
      | (with_reducible exact ih1 _ _ _ _ _ _ _ _ _)
      | (with_reducible exact ih2 _ _ _ _ _)
      | (with_reducible exact intrusionref07_Normal.mono _ _)
      | (with_reducible exact LeO.refl _)
      | (with_reducible exact LeO.none _)
      | (with_reducible refine LeO.ite ?_ ?_)
      | (with_reducible refine LeO.bind ?_ (fun _ => ?_))
      | exact ih0 _ _ _ _
      | exact ih1 _ _ _ _ _ _ _ _ _
      | exact ih2 _ _ _ _ _
      | exact intrusionref07_Normal.mono _ _
      | exact LeO.none _
      | refine LeO.ite ?_ ?_
      | refine LeO.bind ?_ (fun _ => ?_)
theorem intrusionref07_Complement.mono : ∀ a0 k, LeO (intrusionref07_Complement.f k a0) (intrusionref07_Complement.f (k + 1) a0) := by
  intro a0 k
  obtain ⟨ih0, ih1, ih2⟩ := intrusionref07_Complement.mono_l k
  unfold intrusionref07_Complement.f
  repeat' first
      | (with_reducible exact ih0 _ _ _ _)
      | (with_reducible exact ih1 _ _ _ _ _ _ _ _ _)
      | (with_reducible exact ih2 _ _ _ _ _)
      | (with_reducible exact intrusionref07_Normal.mono _ _)
      | (with_reducible exact LeO.refl _)
      | (with_reducible exact LeO.none _)
      | (with_reducible refine LeO.ite ?_ ?_)
      | (with_reducible refine LeO.bind ?_ (fun _ => ?_))
      | exact ih0 _ _ _ _
      | exact ih1 _ _ _ _ _ _ _ _ _
      | exact ih2 _ _ _ _ _
      | exact intrusionref07_Normal.mono _ _
      | exact LeO.none _
      | refine LeO.ite ?_ ?_
      | refine LeO.bind ?_ (fun _ => ?_)
end Go.Proofs.Ytcgfpffgiimgmaa.Q
end

section
namespace Go.Proofs.Ytcgfpffgiimgmaa.Q
open Go.RowKit Go.Proofs.YtcgfpffgiimgmaaW.PrintWords Go.Proofs.YtcgfpffgiimgmaaW.PrintLast Go.Proofs.YtcgfpffgiimgmaaW.PrintMore
attribute [local go_sem] max2_int min2_int max_two min_two max_three min_three max_four min_four
set_option linter.unusedVariables false
set_option linter.unusedSimpArgs false
def intrusionref07_Minus.f (k : Nat) (l0 : List (S66)) (l1 : List (S66)) : Option ((List (S66))) := (intrusionref07_Complement.f k l1).bind fun t881 => ((intrusionref07_Intersect.f k l0 t881).bind fun t884 => (some t884))
theorem intrusionref07_Minus.mono : ∀ a0 a1 k, LeO (intrusionref07_Minus.f k a0 a1) (intrusionref07_Minus.f (k + 1) a0 a1) := by
  intro a0 a1 k
  unfold intrusionref07_Minus.f
  repeat' first
      | (with_reducible exact intrusionref07_Complement.mono _ _)
      | (with_reducible exact intrusionref07_Intersect.mono _ _ _)
      | (with_reducible exact LeO.refl _)
      | (with_reducible exact LeO.none _)
      | (with_reducible refine LeO.ite ?_ ?_)
      | (with_reducible refine LeO.bind ?_ (fun _ => ?_))
      | exact intrusionref07_Complement.mono _ _
      | exact intrusionref07_Intersect.mono _ _ _
      | exact LeO.none _
      | refine LeO.ite ?_ ?_
      | refine LeO.bind ?_ (fun _ => ?_)
end Go.Proofs.Ytcgfpffgiimgmaa.Q
end

section
namespace Go.Proofs.Ytcgfpffgiimgmaa.Q
open Go.RowKit Go.Proofs.YtcgfpffgiimgmaaW.PrintWords Go.Proofs.YtcgfpffgiimgmaaW.PrintLast Go.Proofs.YtcgfpffgiimgmaaW.PrintMore
attribute [local go_sem] max2_int min2_int max_two min_two max_three min_three max_four min_four
set_option linter.unusedVariables false
set_option linter.unusedSimpArgs false
def intrusionref07_Subset.f (k : Nat) (l0 : List (S66)) (l1 : List (S66)) : Option (Bool) := (intrusionref07_Minus.f k l0 l1).bind fun t950 => (some ((t950.length : Int) == 0))
theorem intrusionref07_Subset.mono : ∀ a0 a1 k, LeO (intrusionref07_Subset.f k a0 a1) (intrusionref07_Subset.f (k + 1) a0 a1) := by
  intro a0 a1 k
  unfold intrusionref07_Subset.f
  repeat' first
      | (with_reducible exact intrusionref07_Minus.mono _ _ _)
      | (with_reducible exact LeO.refl _)
      | (with_reducible exact LeO.none _)
      | (with_reducible refine LeO.ite ?_ ?_)
      | (with_reducible refine LeO.bind ?_ (fun _ => ?_))
      | exact intrusionref07_Minus.mono _ _ _
      | exact LeO.none _
      | refine LeO.ite ?_ ?_
      | refine LeO.bind ?_ (fun _ => ?_)
end Go.Proofs.Ytcgfpffgiimgmaa.Q
end

section
set_option linter.unusedVariables false
set_option linter.unusedSimpArgs false
namespace Go.Proofs.Ytcgfpffgiimgmaa.Q
open Go.RowKit Go.Proofs.YtcgfpffgiimgmaaW.PrintWords Go.Proofs.YtcgfpffgiimgmaaW.PrintLast Go.Proofs.YtcgfpffgiimgmaaW.PrintMore Go.Proofs.Ytcgfpffgiimgmaa.Canon
def Sep : Int → List Rg → Prop
  | _, [] => True
  | lo, x :: t => lo ≤ av x.f0 ∧ RW x ∧ Sep (av x.f1 + 1) t
theorem Sep.mono {lo lo' : Int} (h : lo' ≤ lo) : ∀ {l : List Rg}, Sep lo l → Sep lo' l
  | [], _ => trivial
  | x :: t, c => ⟨Int.le_trans h c.1, c.2⟩
theorem Sep.rw : ∀ {l : List Rg} {lo : Int}, Sep lo l → ∀ x ∈ l, RW x ∧ lo ≤ av x.f0
  | [], _, _, x, hx => by simp at hx
  | y :: t, lo, c, x, hx => by
    rcases List.mem_cons.1 hx with rfl | hx
    · exact ⟨c.2.1, c.1⟩
    · obtain ⟨h1, h2⟩ := Sep.rw c.2.2 x hx
      have := c.1
      have := c.2.1.2.2.2
      exact ⟨h1, by omega⟩
theorem sep_append : ∀ (a b : List Rg) (lo hi : Int), Sep lo a → (∀ x ∈ a, av x.f1 < hi) → lo ≤ hi → Sep hi b → Sep lo (a ++ b)
  | [], b, lo, hi, _, _, hle, hb => hb.mono hle
  | x :: a, b, lo, hi, ha, h, hle, hb => ⟨ha.1, ha.2.1, sep_append a b _ hi ha.2.2 (fun z hz => h z (List.mem_cons_of_mem _ hz)) (by have := h x (List.mem_cons_self ..); omega) hb⟩
theorem sep_of_can : ∀ {l : List Rg} {lo : Int}, CanFrom lo (l.map rsp) → (∀ x ∈ l, RW x) → Sep lo l
  | [], _, _, _ => trivial
  | x :: t, lo, c, h => ⟨c.1, h x (List.mem_cons_self ..), (sep_of_can c.2.2 (fun z hz => h z (List.mem_cons_of_mem _ hz))).mono (by simp only [rsp]; omega)⟩
def woR (r s : Rg) : List Rg :=
  if av s.f1 < av r.f0 ∨ av r.f1 < av s.f0 then [r] else (if av r.f0 < av s.f0 then [(⟨r.f0, prevA s.f0⟩ : Rg)] else []) ++ (if av s.f1 < av r.f1 then [(⟨nextA s.f1, r.f1⟩ : Rg)] else [])
theorem fam_meet {r s : Rg} (hr : RW r) (hs : RW s) (h1 : av r.f0 ≤ av s.f1) (h2 : av s.f0 ≤ av r.f1) : r.f0.f0 = s.f0.f0 := by
  rcases hr.num with ⟨_, _, n1 | n1⟩ <;> rcases hs.num with ⟨_, _, n2 | n2⟩
  · rw [n1.1, n2.1]
  · omega
  · omega
  · rw [n1.1, n2.1]
theorem not_first {r s : Rg} (hr : RW r) (hs : RW s) (hf : r.f0.f0 = s.f0.f0) (h : av r.f0 < av s.f0) : ¬ (s.f0.f1 = 0 ∧ s.f0.f2 = 0) := by
  rintro ⟨e1, e2⟩
  have h1 := hr.1.1
  unfold AW at h1
  unfold av at h
  rw [e1, e2, hf] at h
  omega
theorem not_last {r s : Rg} (hr : RW r) (hs : RW s) (hf : r.f0.f0 = s.f0.f0) (h : av s.f1 < av r.f1) : s.f1 ≠ topA s.f1.f0 := by
  intro e
  have h1 := topA_max hr.2.1
  rw [← hr.2.2.1, hf, hs.2.2.1, ← e] at h1
  omega
theorem woR_spec {r s : Rg} (hr : RW r) (hs : RW s) : Sep (av r.f0) (woR r s) ∧ (∀ x ∈ woR r s, av x.f1 ≤ av r.f1) ∧ (∀ n, ASM (woR r s) n ↔ inR r n ∧ ¬ inR s n) ∧ (woR r s).length ≤ (if av r.f0 < av s.f0 ∧ av s.f1 < av r.f1 then 2 else 1) := by
  have r2 := hr.2.2.2
  have s2 := hs.2.2.2
  unfold woR
  by_cases h0 : av s.f1 < av r.f0 ∨ av r.f1 < av s.f0
  · rw [if_pos h0]
    refine ⟨⟨Int.le_refl _, hr, trivial⟩, ?_, fun n => ?_, ?_⟩
    · intro x hx; rw [List.mem_singleton.1 hx]; exact Int.le_refl _
    · rw [asm_cons, asm_nil, or_false]
      unfold inR
      constructor
      · rintro ⟨_, h⟩; exact ⟨h, fun g => by omega⟩
      · rintro ⟨h, _⟩; exact ⟨hr, h⟩
    · simp only [List.length_singleton]; split <;> omega
  · rw [if_neg h0]
    have hf := fam_meet hr hs (by omega) (by omega)
    have hp : av r.f0 < av s.f0 → RW ⟨r.f0, prevA s.f0⟩ ∧ av (prevA s.f0) = av s.f0 - 1 := fun h => by
      obtain ⟨p1, p2, p3⟩ := prevA_spec hs.1 (not_first hr hs hf h)
      exact ⟨⟨hr.1, p1, hf.trans p2.symm, by show av r.f0 ≤ av (prevA s.f0); omega⟩, p3⟩
    have hn : av s.f1 < av r.f1 → RW ⟨nextA s.f1, r.f1⟩ ∧ av (nextA s.f1) = av s.f1 + 1 := fun h => by
      obtain ⟨p1, p2, p3⟩ := nextA_spec hs.2.1 (not_last hr hs hf h)
      exact ⟨⟨p1, hr.2.1, p2.trans (hs.2.2.1.symm.trans (hf.symm.trans hr.2.2.1)), by show av (nextA s.f1) ≤ av r.f1; omega⟩, p3⟩
    by_cases h1 : av r.f0 < av s.f0
    · obtain ⟨p1, p2⟩ := hp h1
      by_cases h2 : av s.f1 < av r.f1
      · obtain ⟨n1, n2⟩ := hn h2
        rw [if_pos h1, if_pos h2, if_pos ⟨h1, h2⟩]
        refine ⟨⟨Int.le_refl _, p1, by show av (prevA s.f0) + 1 ≤ av (nextA s.f1); omega, n1, trivial⟩, ?_, fun n => ?_, by simp⟩
        · intro x hx
          simp only [List.cons_append, List.nil_append, List.mem_cons, List.not_mem_nil, or_false] at hx
          rcases hx with rfl | rfl
          · show av (prevA s.f0) ≤ _; omega
          · exact Int.le_refl _
        · rw [List.cons_append, List.nil_append, asm_cons, asm_cons, asm_nil, or_false]
          unfold inR
          constructor
          · rintro (⟨_, g1, g2⟩ | ⟨_, g1, g2⟩)
            · have g2 : n ≤ av (prevA s.f0) := g2
              have g1 : av r.f0 ≤ n := g1
              exact ⟨by omega, by omega⟩
            · have g1 : av (nextA s.f1) ≤ n := g1
              have g2 : n ≤ av r.f1 := g2
              exact ⟨by omega, by omega⟩
          · rintro ⟨⟨g1, g2⟩, g3⟩
            by_cases g4 : n < av s.f0
            · exact .inl ⟨p1, g1, by show n ≤ av (prevA s.f0); omega⟩
            · exact .inr ⟨n1, by show av (nextA s.f1) ≤ n; omega, g2⟩
      · rw [if_pos h1, if_neg h2, if_neg (fun g => h2 g.2)]
        refine ⟨⟨Int.le_refl _, p1, trivial⟩, ?_, fun n => ?_, by simp⟩
        · intro x hx
          simp only [List.append_nil, List.mem_singleton] at hx
          rw [hx]
          show av (prevA s.f0) ≤ _; omega
        · rw [List.append_nil, asm_cons, asm_nil, or_false]
          unfold inR
          constructor
          · rintro ⟨_, g1, g2⟩
            have g2 : n ≤ av (prevA s.f0) := g2
            have g1 : av r.f0 ≤ n := g1
            exact ⟨by omega, by omega⟩
          · rintro ⟨⟨g1, g2⟩, g3⟩
            exact ⟨p1, g1, by show n ≤ av (prevA s.f0); omega⟩
    · by_cases h2 : av s.f1 < av r.f1
      · obtain ⟨n1, n2⟩ := hn h2
        rw [if_neg h1, if_pos h2, if_neg (fun g => h1 g.1)]
        refine ⟨⟨by show av r.f0 ≤ av (nextA s.f1); omega, n1, trivial⟩, ?_, fun n => ?_, by simp⟩
        · intro x hx
          simp only [List.nil_append, List.mem_singleton] at hx
          rw [hx]
          exact Int.le_refl _
        · rw [List.nil_append, asm_cons, asm_nil, or_false]
          unfold inR
          constructor
          · rintro ⟨_, g1, g2⟩
            have g1 : av (nextA s.f1) ≤ n := g1
            have g2 : n ≤ av r.f1 := g2
            exact ⟨by omega, by omega⟩
          · rintro ⟨⟨g1, g2⟩, g3⟩
            exact ⟨n1, by show av (nextA s.f1) ≤ n; omega, g2⟩
      · rw [if_neg h1, if_neg h2, if_neg (fun g => h1 g.1)]
        refine ⟨trivial, by simp, fun n => ?_, by simp⟩
        rw [List.nil_append, asm_nil]
        unfold inR
        exact ⟨False.elim, fun g => by omega⟩
theorem ev_without {r s : Rg} (hr : RW r) (hs : RW s) : Ev (fun k => addrset_without.f k r.f0.f0 r.f0.f1 r.f0.f2 r.f1.f0 r.f1.f1 r.f1.f2 s.f0.f0 s.f0.f1 s.f0.f2 s.f1.f0 s.f1.f1 s.f1.f2) (woR r s) := by
  have r2 := hr.2.2.2
  have s2 := hs.2.2.2
  have hj0t : (av s.f1 < av r.f0 ∨ av r.f1 < av s.f0) → Ev (fun k => addrset_without.j0 k true r.f0.f0 r.f0.f1 r.f0.f2 r.f1.f0 r.f1.f1 r.f1.f2 s.f0.f0 s.f0.f1 s.f0.f2 s.f1.f0 s.f1.f1 s.f1.f2) (woR r s) := fun h => by
    unfold woR
    rw [if_pos h]
    refine Ev.step (f := fun _ => some [r]) (fun k => ?_) (Ev.now _)
    simp only [addrset_without.j0]
    rw [if_pos (by trivial)]
  unfold addrset_without.f
  by_cases hf : r.f0.f0 = s.f0.f0
  · simp only [hf, bne_self_eq_false, Bool.false_eq_true, if_false]
    have e1 := cmp_f s.f1 r.f0
    have e2 := cmp_f r.f1 s.f0
    have c1 := cmp_lt' hs.2.1.1 hr.1.1
    have c2 := cmp_lt' hr.2.1.1 hs.1.1
    rw [hf] at e1
    rw [e1]
    simp only [Option.bind_some]
    rw [hf] at hj0t
    by_cases d1 : av s.f1 < av r.f0
    · exact Ev.congr (fun k => by rw [if_pos (c1.2 d1)]) (hj0t (.inl d1))
    · refine Ev.congr (f := fun k => addrset_without.j0 k (decide (cmpA r.f1 s.f0 < 0)) s.f0.f0 r.f0.f1 r.f0.f2 r.f1.f0 r.f1.f1 r.f1.f2 s.f0.f0 s.f0.f1 s.f0.f2 s.f1.f0 s.f1.f1 s.f1.f2) (fun k => by rw [if_neg (fun g => d1 (c1.1 g)), e2]; rfl) ?_
      by_cases d2 : av r.f1 < av s.f0
      · rw [decide_eq_true (c2.2 d2)]
        exact hj0t (.inr d2)
      · rw [decide_eq_false (fun g => d2 (c2.1 g))]
        have d3 : ¬ (av s.f1 < av r.f0 ∨ av r.f1 < av s.f0) := by omega
        unfold woR
        rw [if_neg d3]
        have c3 := cmp_lt' hr.1.1 hs.1.1
        have c4 := cmp_lt' hs.2.1.1 hr.2.1.1
        have hj1 : ∀ out : List Rg, out.length ≤ 1 → Ev (fun k => addrset_without.j1 k out s.f0.f0 r.f0.f1 r.f0.f2 r.f1.f0 r.f1.f1 r.f1.f2 s.f0.f0 s.f0.f1 s.f0.f2 s.f1.f0 s.f1.f1 s.f1.f2) (out ++ (if av s.f1 < av r.f1 then [(⟨nextA s.f1, r.f1⟩ : Rg)] else [])) := fun out ho => by
          refine Ev.step (f := fun _ => some (out ++ (if av s.f1 < av r.f1 then [(⟨nextA s.f1, r.f1⟩ : Rg)] else []))) (fun k => ?_) (Ev.now _)
          simp only [addrset_without.j1]
          rw [cmp_f s.f1 r.f1]
          simp only [Option.bind_some]
          by_cases h2 : av s.f1 < av r.f1
          · rw [if_pos (c4.2 h2), if_pos h2, next_eq s.f1 hs.2.1, if_neg (not_last hr hs hf h2)]
            simp only [Option.bind_some]
            rw [if_pos (by omega)]
          · rw [if_neg (fun g => h2 (c4.1 g)), if_neg h2, List.append_nil]
        by_cases h1 : av r.f0 < av s.f0
        · rw [if_pos h1]
          refine Ev.step (fun k => ?_) (hj1 [(⟨r.f0, prevA s.f0⟩ : Rg)] (by simp))
          simp only [addrset_without.j0]
          have e3 := cmp_f r.f0 s.f0
          rw [hf] at e3
          rw [if_neg (by decide), e3]
          simp only [Option.bind_some]
          rw [if_pos (c3.2 h1), prev_eq s.f0 (not_first hr hs hf h1)]
          simp only [Option.bind_some]
          rw [if_pos (by simp), ← hf]
          rfl
        · rw [if_neg h1]
          refine Ev.step (fun k => ?_) (hj1 [] (by simp))
          simp only [addrset_without.j0]
          have e3 := cmp_f r.f0 s.f0
          rw [hf] at e3
          rw [if_neg (by decide), e3]
          simp only [Option.bind_some]
          rw [if_neg (fun g => h1 (c3.1 g))]
  · refine Ev.congr (fun k => by rw [if_pos (by simpa using hf)]) (hj0t ?_)
    have h3 := fun g1 g2 => hf (fam_meet hr hs g1 g2)
    by_cases g1 : av r.f0 ≤ av s.f1
    · by_cases g2 : av s.f0 ≤ av r.f1
      · exact (h3 g1 g2).elim
      · exact .inr (by omega)
    · exact .inl (by omega)
def woAll (s : Rg) (l : List Rg) : List Rg := (l.map fun r => woR r s).flatten
theorem woAll_cons (s r : Rg) (t : List Rg) : woAll s (r :: t) = woR r s ++ woAll s t := by simp [woAll]
theorem woAll_spec {s : Rg} (hs : RW s) : ∀ {l : List Rg} {lo : Int}, Sep lo l → Sep lo (woAll s l) ∧ (∀ n, ASM (woAll s l) n ↔ ASM l n ∧ ¬ inR s n) ∧ (woAll s l).length ≤ l.length + (if lo ≤ av s.f0 then 1 else 0)
  | [], lo, _ => ⟨trivial, fun n => by simp [woAll, asm_nil], by simp [woAll]⟩
  | r :: t, lo, c => by
    obtain ⟨c1, hr, c3⟩ := c
    obtain ⟨w1, w2, w3, w4⟩ := woR_spec hr hs
    obtain ⟨i1, i2, i3⟩ := woAll_spec hs c3
    have r2 := hr.2.2.2
    rw [woAll_cons]
    refine ⟨?_, fun n => ?_, ?_⟩
    · exact sep_append _ _ lo (av r.f1 + 1) (w1.mono c1) (fun x hx => by have := w2 x hx; omega) (by omega) i1
    · rw [asm_append, w3, i2, asm_cons]
      constructor
      · rintro (⟨h1, h2⟩ | ⟨h1, h2⟩)
        · exact ⟨.inl ⟨hr, h1⟩, h2⟩
        · exact ⟨.inr h1, h2⟩
      · rintro ⟨h1 | h1, h2⟩
        · exact .inl ⟨h1.2, h2⟩
        · exact .inr ⟨h1, h2⟩
    · have s2 := hs.2.2.2
      rw [List.length_append, List.length_cons]
      split at w4
      · rename_i g
        rw [if_neg (by omega)] at i3
        rw [if_pos (by omega)]
        omega
      · split at i3
        · rw [if_pos (by omega)]; omega
        · split <;> omega
theorem ev_minus1 (t : List Rg) (s : Rg) (hs : RW s) (tl : Int) (i : Int) {r : List Rg} (L : List Rg) (hl : L.length ≤ 1000000) (hL : ∀ x ∈ L, RW x)
    (next : Ev (fun k => addrset_Minus.l0 k (woAll s L) t tl (wrap64 (i + 1))) r) : ∀ (d j : Nat) (out : List Rg), L.length - j = d → j ≤ L.length → out ++ woAll s (L.drop j) = woAll s L → out.length ≤ 2 * j →
    Ev (fun k => addrset_Minus.l1 k out t tl i L (L.length : Int) (j : Int) s.f0.f0 s.f0.f1 s.f0.f2 s.f1.f0 s.f1.f1 s.f1.f2) r := by
  intro d
  induction d with
  | zero =>
    intro j out hd hj ho _
    have : j = L.length := by omega
    subst this
    have e : out = woAll s L := by rw [← ho, List.drop_length]; simp [woAll]
    subst e
    refine Ev.step (fun k => ?_) next
    simp only [addrset_Minus.l1]; rw [if_neg (by omega)]
  | succ d ih =>
    intro j out hd hj ho hle
    have hlt : j < L.length := by omega
    have hr := hL L[j] (List.getElem_mem hlt)
    have hw := (woR_spec hr hs).2.2.2
    have hw2 : (woR L[j] s).length ≤ 2 := by split at hw <;> omega
    rw [dropc L j hlt, woAll_cons, ← List.append_assoc] at ho
    have h2 := ih (j + 1) (out ++ woR L[j] s) (by omega) (by omega) ho (by rw [List.length_append]; omega)
    refine Ev.step (f := fun k => (addrset_without.f k L[j].f0.f0 L[j].f0.f1 L[j].f0.f2 L[j].f1.f0 L[j].f1.f1 L[j].f1.f2 s.f0.f0 s.f0.f1 s.f0.f2 s.f1.f0 s.f1.f1 s.f1.f2).bind fun w => if out.length + w.length < 2932031007402 then addrset_Minus.l1 k (out ++ w) t tl i L (L.length : Int) ((j + 1 : Nat) : Int) s.f0.f0 s.f0.f1 s.f0.f2 s.f1.f0 s.f1.f1 s.f1.f2 else none) (fun k => ?_) (Ev.bind (ev_without hr hs) ?_)
    · simp only [addrset_Minus.l1]
      rw [if_pos (by omega), if_pos (by omega), if_pos (by omega), rd_getR L j hlt, wsucc j (by omega)]
    · refine Ev.congr (fun k => ?_) h2
      rw [if_pos (by omega)]
theorem ev_minus0 (t : List Rg) (ht : t.length ≤ 100000) (hT : ∀ x ∈ t, RW x) : ∀ (d i : Nat) (L : List Rg), t.length - i = d → i ≤ t.length → Sep 0 L → L.length + (t.length - i) ≤ 900000 → ∃ r, Ev (fun k => addrset_Minus.l0 k L t (t.length : Int) (i : Int)) r ∧ ACan (fun n => ASM L n ∧ ¬ ASM (t.drop i) n) r ∧ r.length ≤ L.length + (t.length - i) := by
  intro d
  induction d with
  | zero =>
    intro i L hd hi hs hl
    have : i = t.length := by omega
    subst this
    obtain ⟨r, r1, r2, r3⟩ := aNormal_spec L (by omega) (fun x hx => (hs.rw x hx).1.b)
    refine ⟨r, Ev.step (f := fun k => (addrset_Normal.f k L).bind fun t => some t) (fun k => ?_) (Ev.bind r1 (Ev.now _)), r2.congr (fun n => ?_), by omega⟩
    · simp only [addrset_Minus.l0]; rw [if_neg (by omega)]
    · rw [List.drop_length, asm_nil]; simp
  | succ d ih =>
    intro i L hd hi hs hl
    have hlt : i < t.length := by omega
    have hsw := hT t[i] (List.getElem_mem hlt)
    obtain ⟨w1, w2, w3⟩ := woAll_spec hsw hs
    have w3' : (woAll t[i] L).length ≤ L.length + 1 := by split at w3 <;> omega
    obtain ⟨r, r1, r2, r3⟩ := ih (i + 1) (woAll t[i] L) (by omega) (by omega) w1 (by omega)
    refine ⟨r, ?_, r2.congr (fun n => ?_), by omega⟩
    · have h := ev_minus1 t t[i] hsw (t.length : Int) (i : Int) L (by omega) (fun x hx => (hs.rw x hx).1) (by rw [wsucc i (by omega)]; exact r1) L.length 0 [] (by omega) (Nat.zero_le _) (by simp) (by simp)
      refine Ev.step (fun k => ?_) h
      simp only [addrset_Minus.l0]
      rw [if_pos (by omega), if_pos (by omega), if_pos (by omega), rd_getR t i hlt]
      rfl
    · rw [w2, dropc t i hlt, asm_cons]
      unfold inR
      constructor
      · rintro ⟨⟨h1, h2⟩, h3⟩
        exact ⟨h1, fun g => g.elim (fun g => h2 g.2) h3⟩
      · rintro ⟨h1, h2⟩
        exact ⟨⟨h1, fun g => h2 (.inl ⟨hsw, g⟩)⟩, fun g => h2 (.inr g)⟩
theorem aMinus_spec (a b : List Rg) (ha : a.length < 10000) (hb : b.length < 10000) (qa : ∀ x ∈ a, RB x) (qb : ∀ x ∈ b, RB x) : ∃ r, Ev (fun k => addrset_Minus.f k a b) r ∧ ACan (fun n => ASM a n ∧ ¬ ASM b n) r ∧ r.length ≤ a.length + b.length := by
  obtain ⟨x, x1, x2, x3⟩ := aNormal_spec a (by omega) qa
  obtain ⟨y, y1, y2, y3⟩ := aNormal_spec b (by omega) qb
  obtain ⟨r, r1, r2, r3⟩ := ev_minus0 y (by omega) y2.2.1 y.length 0 x (by omega) (Nat.zero_le _) (sep_of_can x2.1 x2.2.1) (by omega)
  refine ⟨r, ?_, r2.congr (fun n => ?_), by omega⟩
  · refine Ev.bind (f := fun k t => (addrset_Normal.f k b).bind fun t' => addrset_Minus.l0 k t t' (t'.length : Int) 0) x1 ?_
    exact Ev.bind (f := fun k t' => addrset_Minus.l0 k x t' (t'.length : Int) 0) y1 r1
  · rw [x2.2.2, List.drop_zero, y2.2.2]
theorem aSubset_spec (a b : List Rg) (ha : a.length < 10000) (hb : b.length < 10000) (qa : ∀ x ∈ a, RB x) (qb : ∀ x ∈ b, RB x) : ∃ r, ACan (fun n => ASM a n ∧ ¬ ASM b n) r ∧ Ev (fun k => addrset_Subset.f k a b) ((r.length : Int) == 0) := by
  obtain ⟨r, r1, r2, r3⟩ := aMinus_spec a b ha hb qa qb
  exact ⟨r, r2, Ev.congr (fun k => rfl) (Ev.bind r1 (Ev.now _))⟩
end Go.Proofs.Ytcgfpffgiimgmaa.Q
end

section
set_option linter.unusedVariables false
set_option linter.unusedSimpArgs false
namespace Go.Proofs.Ytcgfpffgiimgmaa.Pure
open Go.RowKit Go.Proofs.Ytcgfpffgiimgmaa.Q Go.Proofs.YtcgfpffgiimgmaaW.PrintWords Go.Proofs.YtcgfpffgiimgmaaW.PrintLast Go.Proofs.YtcgfpffgiimgmaaW.PrintMore
theorem AddrsetAlgebra : ∀ (l0 : List (Rg)) (l1 : List (Rg)) (x2 : Ad), l0.length ≤ maxLen → (∀ x ∈ l0, q66 x) → l1.length ≤ maxLen → (∀ x ∈ l1, q66 x) → q36 x2 → ∃ k, intrusionlaw07_AddrsetAlgebra.f k l0 l1 x2.f0 x2.f1 x2.f2 = some true := by
  intro l0 l1 x hm hq hm1 hq1 h2
  have qa : ∀ x ∈ l0, RB x := fun x hx => rb_of (hq x hx)
  have qb : ∀ x ∈ l1, RB x := fun x hx => rb_of (hq1 x hx)
  have hx := aw_of h2
  refine Ev.rounds (g := fun k => intrusionlaw07_AddrsetAlgebra.f k l0 l1 x.f0 x.f1 x.f2) ?_
  unfold intrusionlaw07_AddrsetAlgebra.f intrusionlaw07_few.f
  have hno : Ev (fun k => (intrusionlaw07_awake.f k).bind fun t => some t) true := Ev.bind aawake_ev (Ev.now _)
  by_cases h0 : (l0.length : Int) ≤ 16
  · rw [if_pos h0]
    by_cases h1 : (l1.length : Int) ≤ 16
    · rw [decide_eq_true h1]
      simp only [Option.bind_some, if_true]
      have ha : l0.length ≤ 16 := by omega
      have hb : l1.length ≤ 16 := by omega
      have hab : l0.length * l1.length ≤ 16 * 16 := Nat.mul_le_mul ha hb
      obtain ⟨u, u1, u2, u3⟩ := aUnion_spec l0 l1 (by omega) (by omega) qa qb
      obtain ⟨i, i1, i2, i3⟩ := aInter_spec l0 l1 (by omega) (by omega) qa qb
      obtain ⟨m, m1, m2, m3⟩ := aMinus_spec l0 l1 (by omega) (by omega) qa qb
      have ub : ∀ z ∈ u, RB z := fun z hz => (u2.2.1 z hz).b
      have ib : ∀ z ∈ i, RB z := fun z hz => (i2.2.1 z hz).b
      have mb : ∀ z ∈ m, RB z := fun z hz => (m2.2.1 z hz).b
      have vu := (aValid_ev u (by omega) ub).1
      have vi := (aValid_ev i (by omega) ib).1
      have vm := (aValid_ev m (by omega) mb).1
      rw [u2.ok] at vu
      rw [i2.ok] at vi
      rw [m2.ok] at vm
      have cu : inA u x = (inA l0 x || inA l1 x) := by
        rw [Bool.eq_iff_iff, Bool.or_eq_true, inA_iff ub hx, inA_iff qa hx, inA_iff qb hx, u2.2.2]
        exact ⟨fun h => h.2.elim (fun g => .inl ⟨h.1, g⟩) (fun g => .inr ⟨h.1, g⟩), fun h => h.elim (fun g => ⟨g.1, .inl g.2⟩) (fun g => ⟨g.1, .inr g.2⟩)⟩
      have ci : inA i x = (inA l0 x && inA l1 x) := by
        rw [Bool.eq_iff_iff, Bool.and_eq_true, inA_iff ib hx, inA_iff qa hx, inA_iff qb hx, i2.2.2]
        exact ⟨fun h => ⟨⟨h.1, h.2.1⟩, ⟨h.1, h.2.2⟩⟩, fun h => ⟨h.1.1, h.1.2, h.2.2⟩⟩
      have cm : inA m x = (inA l0 x && !inA l1 x) := by
        rw [Bool.eq_iff_iff, Bool.and_eq_true, Bool.not_eq_true', ← Bool.not_eq_true, inA_iff mb hx, inA_iff qa hx, inA_iff qb hx, m2.2.2]
        exact ⟨fun h => ⟨⟨h.1, h.2.1⟩, fun g => h.2.2 g.2⟩, fun h => ⟨h.1.1, h.1.2, fun g => h.2 ⟨h.1.1, g⟩⟩⟩
      obtain ⟨p, p1, p2, p3⟩ := aMinus_spec l0 m (by omega) (by omega) qa mb
      have e1 : p = i := p2.uniq (i2.congr (fun n => by
        rw [m2.2.2]
        constructor
        · rintro ⟨g1, g2⟩; exact ⟨g1, fun g => g.2 g2⟩
        · rintro ⟨g1, g2⟩; exact ⟨g1, Classical.byContradiction (fun g => g2 ⟨g1, g⟩)⟩))
      subst e1
      obtain ⟨q, q1, q2, q3⟩ := aUnion_spec m p (by omega) (by omega) mb ib
      obtain ⟨r, r1, r2, r3⟩ := aNormal_spec l0 (by omega) qa
      have e2 : q = r := q2.uniq (r2.congr (fun n => by
        rw [m2.2.2, i2.2.2]
        constructor
        · intro g
          by_cases g2 : Q.ASM l1 n
          · exact .inr ⟨g, g2⟩
          · exact .inl ⟨g, g2⟩
        · rintro (g | g)
          · exact g.1
          · exact g.1))
      subst e2
      obtain ⟨s, s1, s2⟩ := aSubset_spec p l0 (by omega) (by omega) ib qa
      have e3 : s = [] := s1.empty.2 (fun n h => h.2 (((i2.2.2 n).1 h.1).1))
      subst e3
      rw [show ((([] : List Rg).length : Int) == 0) = true from rfl] at s2
      obtain ⟨t, t1, t2⟩ := aSubset_spec l0 u (by omega) (by omega) qa ub
      have e4 : t = [] := t1.empty.2 (fun n h => h.2 ((u2.2.2 n).2 (.inl h.1)))
      subst e4
      rw [show ((([] : List Rg).length : Int) == 0) = true from rfl] at t2
      obtain ⟨w, w1, w2⟩ := aSubset_spec l0 l1 (by omega) (by omega) qa qb
      have e5 := w1.uniq m2
      subst e5
      have hj1 : Ev (fun k => intrusionlaw07_AddrsetAlgebra.j1 k l0 l1 u p w false) true := by
        refine Ev.step (f := fun k => ((addrset_Minus.f k l0 w).bind fun t1040 => ((intrusionref07_Same.f k t1040 p).bind fun t1043 => (if t1043 = true then ((addrset_Union.f k w p).bind fun t1044 => ((addrset_Normal.f k l0).bind fun t1047 => ((intrusionref07_Same.f k t1044 t1047).bind fun t1050 => (if t1050 = true then ((addrset_Subset.f k p l0).bind fun t1051 => (if t1051 = true then ((addrset_Subset.f k l0 u).bind fun t1052 => (if t1052 = true then ((addrset_Subset.f k l0 l1).bind fun t1053 => (if (t1053 == ((w.length : Int) == 0)) = true then ((intrusionlaw07_awake.f k).bind fun t1054 => (some t1054)) else (some false))) else (some false))) else (some false))) else (some false))))) else (some false))))) (fun k => ?_) ?_
        · simp only [intrusionlaw07_AddrsetAlgebra.j1]; rw [if_neg (by decide)]
        refine Ev.bind p1 (Ev.bind (aSame_ev _ (by omega)) ?_)
        simp only [if_true]
        refine Ev.bind q1 (Ev.bind r1 (Ev.bind (aSame_ev _ (by omega)) ?_))
        simp only [if_true]
        refine Ev.bind s2 ?_
        simp only [if_true]
        refine Ev.bind t2 ?_
        simp only [if_true]
        refine Ev.bind w2 ?_
        simp only [beq_self_eq_true, if_true]
        exact hno
      have hj0 : Ev (fun k => intrusionlaw07_AddrsetAlgebra.j0 k l0 l1 u p w false x.f0 x.f1 x.f2) true := by
        refine Ev.step (fun k => ?_) hj1
        simp only [intrusionlaw07_AddrsetAlgebra.j0, acontains_eq, Option.bind_some, cu, ci, cm]
        cases inA l0 x <;> cases inA l1 x <;> simp
      refine Ev.bind u1 (Ev.bind i1 (Ev.bind m1 (Ev.bind vu ?_)))
      simp only [if_true]
      refine Ev.bind vi ?_
      simp only [if_true]
      exact Ev.bind vm hj0
    · rw [decide_eq_false h1]
      exact hno
  · rw [if_neg h0]
    exact hno
end Go.Proofs.Ytcgfpffgiimgmaa.Pure
end

section
namespace Go.Proofs.Ytcgfpffgiimgmaa.addrsetAlgebra
open Go.ChangeShapes Go.WideShapes Go.ChangeAt Go.RowKit Go.Proofs.YtcgfpffgiimgmaaW.PrintWords Go.Proofs.Ytcgfpffgiimgmaa.Read Go.Proofs.Ytcgfpffgiimgmaa.Q
open Go.ChangeMaps (open_string shut_string)
set_option linter.unusedVariables false
theorem own : ownKnob Try.prog.godebug = none := by kernel_rfl
theorem laidOut : laidOutB Try.prog = true := by kernel_rfl
set_option maxRecDepth 100000 in
theorem lifted (os : Os) (started : os.Started) (H : Type) (enc : TypeId × Value → H) :
    ReturnsInHanded {} Try.checked os 13 .any (Rows.addrsetAlgebraSpec.pre6 enc Try.prog Try.f13 Rows.addrsetAlgebraRow.domain false) (Rows.addrsetAlgebraSpec.post enc Try.prog Try.f13 false true false false) := by
  refine returnsInHanded_of_change_sized (C := Try.checked) own started (by kernel_rfl) Try.func13
    (ChangeSpec.witness6 (enc := enc) (C := Try.checked) false ⟨#[], #[.slice none 0 0, .slice none 0 0, .agg #[.bool false, .int .u64 0, .int .u64 0]], []⟩ 8 (by kernel_rfl) (by kernel_rfl) (by kernel_rfl) (by kernel_rfl)) ?_
  intro W base args ds gs before hval0 hW hcnd hsz0 _
  have hsz : (DataW.weightsEach Try.prog (Try.f13.params.toList ++ Rows.addrsetAlgebraSpec.plain.varTypes Try.prog) (ds ++ gs)).all (· ≤ reachBytes) = true := hsz0
  have hval : ∀ (j : Nat) t v, Try.f13.params[j]? = some t → args[j]? = some v → Value.okWide Try.prog W .any base t v := hval0
  have hW' := hW
  obtain ⟨p, q, hA0, hV, rfl, hfz, hnd⟩ := hW
  have hA : DataW.TrodAll enc Try.prog W 0 (fun _ => true) true Try.f13.params.toList args.toList ds p := hA0
  rw [Try.params13] at hA hval hsz
  obtain ⟨v0, vs0, d0, ds0, p0, q0, hargs, rfl, rfl, h0, r0⟩ := trodAll_cons hA
  obtain ⟨v1, vs1, d1, ds1, p1, q1, rfl, rfl, rfl, h1, r1⟩ := trodAll_cons r0
  obtain ⟨v2, vs2, d2, ds2, p2, q2, rfl, rfl, rfl, h2, r2⟩ := trodAll_cons r1
  obtain ⟨rfl, rfl, rfl⟩ := trodAll_nil r2
  obtain rfl : args = #[v0, v1, v2] := by cases args; simp_all
  obtain ⟨rfl, rfl⟩ := trodVars_none hV
  obtain ⟨a0, len0, cap0, rfl⟩ := okWide_slice Try.underlying33 (hval 0 33 v0 rfl rfl)
  have k0_ := h0
  have lt0 : ∀ x ∈ p0, x.block < W.heap.size := by obtain ⟨m, hm⟩ := k0_; exact DataW.trod_lt m _ _ _ hm
  obtain ⟨fuel0, hf0⟩ := h0
  obtain ⟨l0, ⟨A0, c0, hcs0, hle0, hC0⟩, hm0, hq0⟩ := (reads_slice Try.underlying33 (by kernel_rfl) (reads_k66 W) : Reads Try.prog W (Kd.slice 66 k66) _ 33) H enc fuel0 _ _ hf0
  simp [Value.cells] at hcs0
  obtain ⟨rfl, rfl, rfl⟩ := hcs0
  obtain ⟨a1, len1, cap1, rfl⟩ := okWide_slice Try.underlying33 (hval 1 33 v1 rfl rfl)
  have k1_ := h1
  have lt1 : ∀ x ∈ p1, x.block < W.heap.size := by obtain ⟨m, hm⟩ := k1_; exact DataW.trod_lt m _ _ _ hm
  obtain ⟨fuel1, hf1⟩ := h1
  obtain ⟨l1, ⟨A1, c1, hcs1, hle1, hC1⟩, hm1, hq1⟩ := (reads_slice Try.underlying33 (by kernel_rfl) (reads_k66 W) : Reads Try.prog W (Kd.slice 66 k66) _ 33) H enc fuel1 _ _ hf1
  simp [Value.cells] at hcs1
  obtain ⟨rfl, rfl, rfl⟩ := hcs1
  obtain ⟨cs2, rfl, hz2⟩ := okWide_struct Try.underlying36 (hval 2 36 v2 rfl rfl)
  have k2_ := h2
  have lt2 : ∀ x ∈ p2, x.block < W.heap.size := by obtain ⟨m, hm⟩ := k2_; exact DataW.trod_lt m _ _ _ hm
  obtain ⟨fuel2, hf2⟩ := h2
  obtain ⟨x2, hK2, hq2⟩ := reads_k36 W H enc fuel2 _ _ hf2
  have hcs2 := k36_open hK2
  simp only [Value.cells] at hcs2
  obtain rfl : cs2 = #[.bool x2.f0, .int .u64 x2.f1, .int .u64 x2.f2] := by rw [← Array.toList_inj]; exact hcs2
  clear hA0 hval0 hsz0 hsz
  obtain ⟨k, hk⟩ := Pure.AddrsetAlgebra l0 l1 x2 hm0 hq0 hm1 hq1 hq2
  refine (intrusionlaw07_AddrsetAlgebra.calls k _ _ l0 _ _ l1 x2.f0 x2.f1 x2.f2 true W hC0 hle0 hC1 hle1 hk).mono fun e W' he => ?_
  obtain ⟨rfl, bel⟩ := he
  exact ⟨_, rfl, _, _, _, [], _, [], hW', trodAll_mk1 (shut_bool Try.underlying4 _), (trodAll_cons_mk (Below.trod laidOut (by kernel_rfl) (of_decide_eq_true (by kernel_rfl)) k0_ bel lt0) (trodAll_cons_mk (Below.trod laidOut (by kernel_rfl) (of_decide_eq_true (by kernel_rfl)) k1_ bel lt1) (trodAll_cons_mk (Below.trod laidOut (by kernel_rfl) (of_decide_eq_true (by kernel_rfl)) k2_ bel lt2) trodAll_mk0))), rfl, bel.frame _, fun h => by cases h⟩
theorem over : Rows.addrsetAlgebraRow.holds Try.pinned (OpenSpec.ofChange Rows.addrsetAlgebraSpec) :=
  OpenClaim.holds_of_wide 13 Try.f13 rfl rfl rfl rfl rfl rfl rfl ⟨rfl, rfl, rfl, rfl, rfl⟩ rfl rfl rfl rfl rfl (by kernel_rfl) Try.func13 (by kernel_rfl)
    (of_decide_eq_true (by kernel_rfl)) (by unfold Func.isWrapper; first | (rw [if_pos (by decide +kernel)]; kernel_rfl) | (rw [if_neg (by decide +kernel)]; exact ⟨rfl, rfl⟩))
    (fun os started H enc _ => lifted os started H enc)
theorem proved : Rows.AddrsetAlgebraSaid := over
#print axioms proved
end Go.Proofs.Ytcgfpffgiimgmaa.addrsetAlgebra
namespace Go.Proofs.Ytcgfpffgiimgmaa
theorem addrsetAlgebra_holds : Rows.AddrsetAlgebraSaid := addrsetAlgebra.proved
end Go.Proofs.Ytcgfpffgiimgmaa
end
