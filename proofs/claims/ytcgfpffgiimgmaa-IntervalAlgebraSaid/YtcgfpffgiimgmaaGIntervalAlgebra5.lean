/- The law IntervalAlgebra answers true for every input and leaves its arguments as they were. No condition. (Part 5 of 5: the kit's printed words and walks, hand-made contracts and plain laws, joined in build order, without what the theorem does not reach.) -/
import Derived.Test.YtcgfpffgiimgmaaRows
import Derived.WalkKit
import Derived.ProofKit
import Derived.OpenShut
import Derived.ShutString
import Derived.ChangeOld
import Derived.Below
import Derived.SizedLaws
import Derived.Carry
import Derived.Test.YtcgfpffgiimgmaaGIntervalAlgebra4
section
set_option linter.unusedVariables false
set_option linter.unusedSimpArgs false
namespace Go.Proofs.Ytcgfpffgiimgmaa.Q
open Go.RowKit Go.Proofs.YtcgfpffgiimgmaaW.PrintWords Go.Proofs.YtcgfpffgiimgmaaW.PrintLast Go.Proofs.YtcgfpffgiimgmaaW.PrintMore Go.Proofs.Ytcgfpffgiimgmaa.Canon
theorem ev_concat (a b : List Sn) (ha : a.length < 4000000000000) (hb : b.length < 4000000000000) : Ev (fun k => slices_Concat_Span.f k [a, b]) (a ++ b) := by
  refine ⟨6, fun k hk => ?_⟩
  obtain ⟨m, rfl⟩ : ∃ m, k = m + 6 := ⟨k - 6, by omega⟩
  show slices_Concat_Span.f (m + 6) [a, b] = _
  have w1 : wrap64 (0 + 1) = 1 := wrap_id (by omega) (by omega)
  have w2 : wrap64 (1 + 1) = 2 := wrap_id (by omega) (by omega)
  have r0 : rd_L2 [a, b] 0 = a := rfl
  have r1 : rd_L2 [a, b] 1 = b := rfl
  unfold slices_Concat_Span.f
  simp only [slices_Concat_Span.l0, List.length_cons, List.length_nil]
  rw [if_pos (by decide), if_pos (by decide), if_pos (by decide), r0, wrap_id (x := 0 + (a.length : Int)) (by omega) (by omega), if_neg (by omega), w1, if_pos (by decide), if_pos (by decide), if_pos (by decide), r1, wrap_id (x := 0 + (a.length : Int) + (b.length : Int)) (by omega) (by omega), if_neg (by omega), w2, if_neg (by decide)]
  unfold grow_Span.f
  rw [if_pos ⟨by omega, by omega⟩]
  simp only [Option.bind_some, slices_Concat_Span.l1, List.length_cons, List.length_nil]
  rw [if_pos (by decide), if_pos (by decide), if_pos (by decide), r0, if_pos (by omega), w1, if_pos (by decide), if_pos (by decide), if_pos (by decide), r1, if_pos (by rw [List.length_append, List.length_nil]; omega), w2, if_neg (by decide)]
  simp
def UnionP (a b : List Sn) (n : Int) : Prop := (SM a n ∨ SM b n) ∧ 0 ≤ n ∧ n ≤ 4294967296
theorem union_spec (a b : List Sn) (ha : a.length < 4000000000000) (hb : b.length < 4000000000000) : ∃ r, Ev (fun k => interval_Union.f k a b) r ∧ Can (UnionP a b) r ∧ r.length ≤ a.length + b.length := by
  obtain ⟨r, h1, h2, h3⟩ := normal_spec (a ++ b) (by rw [List.length_append]; omega)
  refine ⟨r, Ev.congr (fun k => rfl) (Ev.bind (ev_concat a b ha hb) (Ev.bind h1 (Ev.now _))), h2.congr (fun n => ?_), by rw [List.length_append] at h3; exact h3⟩
  rw [sm_append]
  rfl
def MinusP (a b : List Sn) (n : Int) : Prop := SM a n ∧ ¬ SM b n ∧ 0 ≤ n ∧ n ≤ 4294967296
theorem minus_spec (a b : List Sn) (ha : a.length < 2000000000000) (hb : b.length < 2000000000000) : ∃ r, Ev (fun k => interval_Minus.f k a b) r ∧ Can (MinusP a b) r ∧ r.length ≤ a.length + b.length + 1 := by
  obtain ⟨c, c1, c2, c3⟩ := compl_spec b 0 4294967296 (by omega)
  obtain ⟨r, r1, r2, r3⟩ := inter_spec a c (by omega) (by omega)
  refine ⟨r, Ev.congr (fun k => rfl) (Ev.bind c1 (Ev.bind r1 (Ev.now _))), r2.congr (fun n => ?_), by omega⟩
  unfold InterP MinusP
  rw [c2.2.2 n]
  unfold ComplP
  constructor
  · rintro ⟨h1, ⟨_, _, _, _, h2⟩, h3, h4⟩; exact ⟨h1, h2, h3, h4⟩
  · rintro ⟨h1, h2, h3, h4⟩; exact ⟨h1, ⟨h3, h3, h4, h4, h2⟩, h3, h4⟩
open Classical in
noncomputable def inB (l : List Sn) (n : Int) : Bool := decide (SM l n ∧ 0 ≤ n ∧ n ≤ 4294967296)
theorem inB_iff (l : List Sn) (n : Int) : inB l n = true ↔ SM l n ∧ 0 ≤ n ∧ n ≤ 4294967296 := by unfold inB; simp
theorem any_in (l : List Sn) (n : Int) : l.any (inSpan n) = true ↔ SM l n := by
  rw [sm_iff, List.any_eq_true]
  constructor
  · rintro ⟨x, hx, h⟩
    unfold inSpan at h
    simp at h
    exact ⟨x, hx, h.1, h.2⟩
  · rintro ⟨x, hx, h1, h2⟩
    exact ⟨x, hx, by simp [inSpan, h1, h2]⟩
theorem contains_eq (l : List Sn) (n : Int) : interval_Contains.f l n = some (inB l n) := by
  unfold interval_Contains.f inB
  congr 1
  rw [Bool.eq_iff_iff]
  simp only [Bool.and_eq_true, decide_eq_true_eq, any_in]
  constructor
  · rintro ⟨h1, h2, h3⟩; exact ⟨h3, h1, h2⟩
  · rintro ⟨h3, h1, h2⟩; exact ⟨h1, h2, h3⟩
theorem ev_rcont0 (L : List Sn) (n : Int) (hl : L.length < 8796093022208) (h0 : 0 ≤ n) (h1 : n ≤ 4294967296) : ∀ (d i : Nat), L.length - i = d → i ≤ L.length → Ev (fun k => intrusionref05_Contains.l0 k L n (i : Int)) (inB (L.drop i) n) := by
  intro d
  induction d with
  | zero =>
    intro i hd hi
    have : i = L.length := by omega
    subst this
    refine Ev.step (f := fun _ => some false) (fun k => ?_) ?_
    · simp only [intrusionref05_Contains.l0]; rw [if_neg (by omega)]
    · have : inB (L.drop L.length) n = false := by unfold inB; rw [List.drop_eq_nil_of_le (Nat.le_refl _)]; simp [sm_nil]
      rw [this]
      exact Ev.now _
  | succ d ih =>
    intro i hd hi
    have hlt : i < L.length := by omega
    have ih' := ih (i + 1) (by omega) (by omega)
    by_cases c : L[i].f0 ≤ n ∧ n ≤ L[i].f1
    · have : inB (L.drop i) n = true := (inB_iff _ _).2 ⟨by rw [drop_cons L i hlt]; exact (sm_cons _ _ _).2 (.inl c), h0, h1⟩
      rw [this]
      refine Ev.step (f := fun _ => some true) (fun k => ?_) (Ev.now _)
      simp only [intrusionref05_Contains.l0]
      rw [if_pos (by omega), if_pos (by omega), rd_at L i hlt, if_pos c.1, if_pos c.2]
    · have : inB (L.drop i) n = inB (L.drop (i + 1)) n := by
        unfold inB
        rw [drop_cons L i hlt]
        congr 1
        rw [sm_cons]
        simp only [eq_iff_iff]
        constructor
        · rintro ⟨h | h, h2⟩
          · exact absurd h c
          · exact ⟨h, h2⟩
        · rintro ⟨h, h2⟩; exact ⟨.inr h, h2⟩
      rw [this]
      refine Ev.step (fun k => ?_) ih'
      simp only [intrusionref05_Contains.l0]
      rw [if_pos (by omega), if_pos (by omega), rd_at L i hlt, wrap_succ i (by omega)]
      by_cases c1 : L[i].f0 ≤ n
      · rw [if_pos c1, if_neg (fun h => c ⟨c1, h⟩)]
      · rw [if_neg c1]
theorem ev_same0 (L : List Sn) (hl : L.length < 8796093022208) : ∀ (d i : Nat), L.length - i = d → i ≤ L.length → Ev (fun k => intrusionlaw05_same.l0 k L L (L.length : Int) (i : Int)) true := by
  intro d
  induction d with
  | zero =>
    intro i hd hi
    have : i = L.length := by omega
    subst this
    refine Ev.step (f := fun _ => some true) (fun k => ?_) (Ev.now _)
    simp only [intrusionlaw05_same.l0]; rw [if_neg (by omega)]
  | succ d ih =>
    intro i hd hi
    have hlt : i < L.length := by omega
    refine Ev.step (fun k => ?_) (ih (i + 1) (by omega) (by omega))
    simp only [intrusionlaw05_same.l0]
    rw [if_pos (by omega), if_pos (by omega), if_pos (by omega), if_pos (by omega), wrap_succ i (by omega)]
    simp
theorem same_ev (L : List Sn) (hl : L.length < 8796093022208) : Ev (fun k => intrusionlaw05_same.f k L L) true := by
  have h := ev_same0 L hl L.length 0 (by omega) (by omega)
  refine Ev.congr (fun k => ?_) h
  unfold intrusionlaw05_same.f
  rw [if_pos rfl]
  rfl
theorem awake_ev : Ev (fun k => intrusionlaw05_awake.f k) true := by
  obtain ⟨r1, e1, c1, _⟩ := normal_spec [(⟨5, 7⟩ : Sn), ⟨1, 2⟩, ⟨3, 3⟩, ⟨9, 8⟩] (by decide)
  obtain ⟨r2, e2, c2, _⟩ := compl_spec [(⟨3, 5⟩ : Sn)] 0 9 (by decide)
  obtain ⟨r3, e3, c3, _⟩ := minus_spec [(⟨0, 9⟩ : Sn)] [(⟨3, 3⟩ : Sn)] (by decide) (by decide)
  have h1 : r1 = [(⟨1, 3⟩ : Sn), ⟨5, 7⟩] := c1.uniq ⟨by simp [CanFrom, sp], by simp, fun n => by
    simp only [sm_cons, sm_nil, or_false]
    omega⟩
  have h2 : r2 = [(⟨0, 2⟩ : Sn), ⟨6, 9⟩] := c2.uniq ⟨by simp [CanFrom, sp], by simp, fun n => by
    unfold ComplP
    simp only [sm_cons, sm_nil, or_false]
    omega⟩
  have h3 : r3 = [(⟨0, 2⟩ : Sn), ⟨4, 9⟩] := c3.uniq ⟨by simp [CanFrom, sp], by simp, fun n => by
    unfold MinusP
    simp only [sm_cons, sm_nil, or_false]
    omega⟩
  subst h1 h2 h3
  have hn : Can (SM [(⟨0, 2⟩ : Sn), ⟨4, 9⟩]) [(⟨0, 2⟩ : Sn), ⟨4, 9⟩] := ⟨by simp [CanFrom, sp], by simp, fun n => Iff.rfl⟩
  obtain ⟨r4, e4, c4, _⟩ := count_spec [(⟨0, 2⟩ : Sn), ⟨4, 9⟩] (by decide)
  have h4 : r4 = [(⟨0, 2⟩ : Sn), ⟨4, 9⟩] := e4.uniq ⟨by simp [CanFrom, sp], by simp, fun n => by
    simp only [sm_cons, sm_nil, or_false]
    omega⟩
  subst h4
  have e5 := (valid_ev [(⟨0, 2⟩ : Sn), ⟨4, 9⟩] (by decide) (by simp)).1
  rw [can_ok hn] at e5
  have k1 : inB [(⟨0, 2⟩ : Sn), ⟨4, 9⟩] 4 = true := by unfold inB; simp [sm_cons, sm_nil]
  have k2 : inB [(⟨0, 2⟩ : Sn), ⟨4, 9⟩] 3 = false := by unfold inB; simp [sm_cons, sm_nil]
  unfold intrusionlaw05_awake.f
  refine Ev.bind e1 (Ev.bind e2 (Ev.bind e3 (Ev.bind (same_ev _ (by decide)) ?_)))
  simp only [if_true]
  refine Ev.bind (same_ev _ (by decide)) ?_
  simp only [if_true]
  refine Ev.bind c4 ?_
  rw [show total [(⟨0, 2⟩ : Sn), ⟨4, 9⟩] = 9 from rfl]
  simp only [if_true]
  refine Ev.bind e5 ?_
  simp only [if_true, contains_eq, k1, k2, Option.bind_some]
  exact Ev.now _
end Go.Proofs.Ytcgfpffgiimgmaa.Q
end

section
set_option linter.unusedVariables false
set_option linter.unusedSimpArgs false
namespace Go.Proofs.Ytcgfpffgiimgmaa.Pure
open Go.RowKit Go.Proofs.Ytcgfpffgiimgmaa.Q Go.Proofs.YtcgfpffgiimgmaaW.PrintWords Go.Proofs.YtcgfpffgiimgmaaW.PrintLast Go.Proofs.YtcgfpffgiimgmaaW.PrintMore
theorem IntervalAlgebra : ∀ (l0 : List (Sn)) (l1 : List (Sn)) (a2 : Int), l0.length ≤ maxLen → (∀ x ∈ l0, q52 x) → l1.length ≤ maxLen → (∀ x ∈ l1, q52 x) → (Lit.int .i64 a2).wf = true → ∃ k, intrusionlaw05_IntervalAlgebra.f k l0 l1 a2 = some true := by
  intro l0 l1 a2 hm hq hm1 hq1 w2
  refine Ev.rounds (g := fun k => intrusionlaw05_IntervalAlgebra.f k l0 l1 a2) ?_
  have hbig : Ev (fun k => intrusionlaw05_IntervalAlgebra.j0 k l0 l1 a2 true) true := by
    refine Ev.step (f := fun k => (intrusionlaw05_awake.f k).bind fun t => some t) (fun k => ?_) (Ev.bind awake_ev (Ev.now _))
    simp only [intrusionlaw05_IntervalAlgebra.j0, if_true]
  unfold intrusionlaw05_IntervalAlgebra.f intrusionlaw05_large.f
  simp only [Option.bind_some]
  by_cases h0 : (l0.length : Int) > 60
  · simp only [h0, decide_true, if_true]
    exact hbig
  simp only [h0, decide_false, Bool.false_eq_true, if_false]
  by_cases h1 : (l1.length : Int) > 60
  · simp only [h1, decide_true]
    exact hbig
  simp only [h1, decide_false]
  obtain ⟨u, u1, u2, u3⟩ := union_spec l0 l1 (by omega) (by omega)
  obtain ⟨i, i1, i2, i3⟩ := inter_spec l0 l1 (by omega) (by omega)
  obtain ⟨m, m1, m2, m3⟩ := minus_spec l0 l1 (by omega) (by omega)
  obtain ⟨c, c1, c2, c3⟩ := compl_spec l0 0 4294967296 (by omega)
  have bl : ∀ {P : Int → Prop} {r : List Sn}, Q.Can P r → (∀ x ∈ r, -9223372036854775808 ≤ x.f0 ∧ x.f1 ≤ 9223372036854775807) := fun h x hx => by
    have := h.wf x hx
    omega
  have vu := (valid_ev u (by omega) (bl u2)).1
  have vi := (valid_ev i (by omega) (bl i2)).1
  have vm := (valid_ev m (by omega) (bl m2)).1
  have vc := (valid_ev c (by omega) (bl c2)).1
  rw [can_ok u2] at vu
  rw [can_ok i2] at vi
  rw [can_ok m2] at vm
  rw [can_ok c2] at vc
  have hj2 : Ev (fun k => intrusionlaw05_IntervalAlgebra.j2 k u i m c false) true := by
    refine Ev.step (f := fun k => ((interval_Valid.f k u).bind fun t421 => (if t421 = true then ((interval_Valid.f k i).bind fun t422 => (if t422 = true then ((interval_Valid.f k m).bind fun t423 => (if t423 = true then ((interval_Valid.f k c).bind fun t424 => (if t424 = true then ((intrusionlaw05_awake.f k).bind fun t425 => (some t425)) else (some false))) else (some false))) else (some false))) else (some false)))) (fun k => ?_) ?_
    · simp only [intrusionlaw05_IntervalAlgebra.j2]; rfl
    refine Ev.bind vu ?_
    simp only [if_true]
    refine Ev.bind vi ?_
    simp only [if_true]
    refine Ev.bind vm ?_
    simp only [if_true]
    refine Ev.bind vc ?_
    simp only [if_true]
    exact Ev.bind awake_ev (Ev.now _)
  have cu : inB u a2 = (inB l0 a2 || inB l1 a2) := by
    rw [Bool.eq_iff_iff, Bool.or_eq_true, inB_iff, inB_iff, inB_iff, u2.2.2]
    unfold UnionP
    exact ⟨fun h => h.1.1.elim (fun q => Or.inl ⟨q, h.2⟩) (fun q => Or.inr ⟨q, h.2⟩), fun h => h.elim (fun q => ⟨⟨Or.inl q.1, q.2⟩, q.2⟩) (fun q => ⟨⟨Or.inr q.1, q.2⟩, q.2⟩)⟩
  have ci : inB i a2 = (inB l0 a2 && inB l1 a2) := by
    rw [Bool.eq_iff_iff, Bool.and_eq_true, inB_iff, inB_iff, inB_iff, i2.2.2]
    unfold InterP
    exact ⟨fun h => ⟨⟨h.1.1, h.2⟩, ⟨h.1.2.1, h.2⟩⟩, fun h => ⟨⟨h.1.1, h.2.1, h.1.2⟩, h.1.2⟩⟩
  have cm : inB m a2 = (inB l0 a2 && !inB l1 a2) := by
    rw [Bool.eq_iff_iff, Bool.and_eq_true, Bool.not_eq_true', ← Bool.not_eq_true, inB_iff, inB_iff, inB_iff, m2.2.2]
    unfold MinusP
    exact ⟨fun h => ⟨⟨h.1.1, h.2⟩, fun q => h.1.2.1 q.1⟩, fun h => ⟨⟨h.1.1, fun q => h.2 ⟨q, h.1.2⟩, h.1.2⟩, h.1.2⟩⟩
  have cc : inB c a2 = (decide (0 ≤ a2 ∧ a2 ≤ 4294967296) && !inB l0 a2) := by
    rw [Bool.eq_iff_iff, Bool.and_eq_true, Bool.not_eq_true', ← Bool.not_eq_true, inB_iff, inB_iff, c2.2.2, decide_eq_true_iff]
    unfold ComplP
    exact ⟨fun h => ⟨h.2, fun q => h.1.2.2.2.2 q.1⟩, fun h => ⟨⟨h.1.1, h.1.1, h.1.2, h.1.2, fun q => h.2 ⟨q, h.1⟩⟩, h.1⟩⟩
  have hx0 : inB l0 a2 = true → (0 ≤ a2 ∧ a2 ≤ 4294967296) := fun h => ((inB_iff l0 a2).mp h).2
  have hj1 : Ev (fun k => intrusionlaw05_IntervalAlgebra.j1 k a2 u i m c (inB l0 a2) (inB l1 a2) (decide (0 ≤ a2 ∧ a2 ≤ 4294967296))) true := by
    refine Ev.step (f := fun k => intrusionlaw05_IntervalAlgebra.j2 k u i m c false) (fun k => ?_) hj2
    simp only [intrusionlaw05_IntervalAlgebra.j1, contains_eq, Option.bind_some, cu, ci, cm, cc]
    by_cases hin : 0 ≤ a2 ∧ a2 ≤ 4294967296
    · simp only [hin, and_self, decide_true]
      cases inB l0 a2 <;> cases inB l1 a2 <;> simp
    · have hl : inB l0 a2 = false := by
        cases hh : inB l0 a2
        · rfl
        · exact absurd (hx0 hh) hin
      simp only [hin, decide_false, hl]
      cases inB l1 a2 <;> simp
  have hj0 : Ev (fun k => intrusionlaw05_IntervalAlgebra.j0 k l0 l1 a2 false) true := by
    refine Ev.step (f := fun k => ((interval_Union.f k l0 l1).bind fun t400 => ((interval_Intersect.f k l0 l1).bind fun t403 => ((interval_Minus.f k l0 l1).bind fun t406 => ((interval_Complement.f k l0 0 4294967296).bind fun t409 => (intrusionlaw05_IntervalAlgebra.j1 k a2 t400 t403 t406 t409 (inB l0 a2) (inB l1 a2) (decide (0 ≤ a2 ∧ a2 ≤ 4294967296)))))))) (fun k => ?_) ?_
    · simp only [intrusionlaw05_IntervalAlgebra.j0, contains_eq, Option.bind_some, Bool.false_eq_true, if_false]
      by_cases h2 : a2 ≥ 0
      · have h3 : 0 ≤ a2 := h2
        simp [h3]
      · have h3 : ¬ 0 ≤ a2 := h2
        simp [h3]
    · refine Ev.bind u1 ?_
      refine Ev.bind i1 ?_
      refine Ev.bind m1 ?_
      exact Ev.bind c1 hj1
  exact hj0
end Go.Proofs.Ytcgfpffgiimgmaa.Pure
end

section
namespace Go.Proofs.Ytcgfpffgiimgmaa.intervalAlgebra
open Go.ChangeShapes Go.WideShapes Go.ChangeAt Go.RowKit Go.Proofs.YtcgfpffgiimgmaaW.PrintWords Go.Proofs.Ytcgfpffgiimgmaa.Read Go.Proofs.Ytcgfpffgiimgmaa.Q
open Go.ChangeMaps (open_string shut_string)
set_option linter.unusedVariables false
theorem own : ownKnob Try.prog.godebug = none := by kernel_rfl
theorem laidOut : laidOutB Try.prog = true := by kernel_rfl
set_option maxRecDepth 100000 in
theorem lifted (os : Os) (started : os.Started) (H : Type) (enc : TypeId × Value → H) :
    ReturnsInHanded {} Try.checked os 7 .any (Rows.intervalAlgebraSpec.pre6 enc Try.prog Try.f7 Rows.intervalAlgebraRow.domain false) (Rows.intervalAlgebraSpec.post enc Try.prog Try.f7 false true false false) := by
  refine returnsInHanded_of_change_sized (C := Try.checked) own started (by kernel_rfl) Try.func7
    (ChangeSpec.witness6 (enc := enc) (C := Try.checked) false ⟨#[], #[.slice none 0 0, .slice none 0 0, .int .i64 0], []⟩ 8 (by kernel_rfl) (by kernel_rfl) (by kernel_rfl) (by kernel_rfl)) ?_
  intro W base args ds gs before hval0 hW hcnd hsz0 _
  have hsz : (DataW.weightsEach Try.prog (Try.f7.params.toList ++ Rows.intervalAlgebraSpec.plain.varTypes Try.prog) (ds ++ gs)).all (· ≤ reachBytes) = true := hsz0
  have hval : ∀ (j : Nat) t v, Try.f7.params[j]? = some t → args[j]? = some v → Value.okWide Try.prog W .any base t v := hval0
  have hW' := hW
  obtain ⟨p, q, hA0, hV, rfl, hfz, hnd⟩ := hW
  have hA : DataW.TrodAll enc Try.prog W 0 (fun _ => true) true Try.f7.params.toList args.toList ds p := hA0
  rw [Try.params7] at hA hval hsz
  obtain ⟨v0, vs0, d0, ds0, p0, q0, hargs, rfl, rfl, h0, r0⟩ := trodAll_cons hA
  obtain ⟨v1, vs1, d1, ds1, p1, q1, rfl, rfl, rfl, h1, r1⟩ := trodAll_cons r0
  obtain ⟨v2, vs2, d2, ds2, p2, q2, rfl, rfl, rfl, h2, r2⟩ := trodAll_cons r1
  obtain ⟨rfl, rfl, rfl⟩ := trodAll_nil r2
  obtain rfl : args = #[v0, v1, v2] := by cases args; simp_all
  obtain ⟨rfl, rfl⟩ := trodVars_none hV
  obtain ⟨a0, len0, cap0, rfl⟩ := okWide_slice Try.underlying22 (hval 0 22 v0 rfl rfl)
  have k0_ := h0
  have lt0 : ∀ x ∈ p0, x.block < W.heap.size := by obtain ⟨m, hm⟩ := k0_; exact DataW.trod_lt m _ _ _ hm
  obtain ⟨fuel0, hf0⟩ := h0
  obtain ⟨l0, ⟨A0, c0, hcs0, hle0, hC0⟩, hm0, hq0⟩ := (reads_slice Try.underlying22 (by kernel_rfl) (reads_k52 W) : Reads Try.prog W (Kd.slice 52 k52) _ 22) H enc fuel0 _ _ hf0
  simp [Value.cells] at hcs0
  obtain ⟨rfl, rfl, rfl⟩ := hcs0
  obtain ⟨a1, len1, cap1, rfl⟩ := okWide_slice Try.underlying22 (hval 1 22 v1 rfl rfl)
  have k1_ := h1
  have lt1 : ∀ x ∈ p1, x.block < W.heap.size := by obtain ⟨m, hm⟩ := k1_; exact DataW.trod_lt m _ _ _ hm
  obtain ⟨fuel1, hf1⟩ := h1
  obtain ⟨l1, ⟨A1, c1, hcs1, hle1, hC1⟩, hm1, hq1⟩ := (reads_slice Try.underlying22 (by kernel_rfl) (reads_k52 W) : Reads Try.prog W (Kd.slice 52 k52) _ 22) H enc fuel1 _ _ hf1
  simp [Value.cells] at hcs1
  obtain ⟨rfl, rfl, rfl⟩ := hcs1
  obtain ⟨a2, rfl, rfl, rfl, w2⟩ := open_int Try.underlying3 (hval 2 3 v2 rfl rfl) h2
  clear hA0 hval0 hsz0 hsz
  obtain ⟨k, hk⟩ := Pure.IntervalAlgebra l0 l1 a2 hm0 hq0 hm1 hq1 w2
  refine (intrusionlaw05_IntervalAlgebra.calls k _ _ l0 _ _ l1 a2 true W hC0 hle0 hC1 hle1 hk).mono fun e W' he => ?_
  obtain ⟨rfl, bel⟩ := he
  exact ⟨_, rfl, _, _, _, [], _, [], hW', trodAll_mk1 (shut_bool Try.underlying4 _), (trodAll_cons_mk (Below.trod laidOut (by kernel_rfl) (of_decide_eq_true (by kernel_rfl)) k0_ bel lt0) (trodAll_cons_mk (Below.trod laidOut (by kernel_rfl) (of_decide_eq_true (by kernel_rfl)) k1_ bel lt1) (trodAll_cons_mk (shut_int Try.underlying3 w2) trodAll_mk0))), rfl, bel.frame _, fun h => by cases h⟩
theorem over : Rows.intervalAlgebraRow.holds Try.pinned (OpenSpec.ofChange Rows.intervalAlgebraSpec) :=
  OpenClaim.holds_of_wide 7 Try.f7 rfl rfl rfl rfl rfl rfl rfl ⟨rfl, rfl, rfl, rfl, rfl⟩ rfl rfl rfl rfl rfl (by kernel_rfl) Try.func7 (by kernel_rfl)
    (of_decide_eq_true (by kernel_rfl)) (by unfold Func.isWrapper; first | (rw [if_pos (by decide +kernel)]; kernel_rfl) | (rw [if_neg (by decide +kernel)]; exact ⟨rfl, rfl⟩))
    (fun os started H enc _ => lifted os started H enc)
theorem proved : Rows.IntervalAlgebraSaid := over
#print axioms proved
end Go.Proofs.Ytcgfpffgiimgmaa.intervalAlgebra
namespace Go.Proofs.Ytcgfpffgiimgmaa
theorem intervalAlgebra_holds : Rows.IntervalAlgebraSaid := intervalAlgebra.proved
end Go.Proofs.Ytcgfpffgiimgmaa
end
