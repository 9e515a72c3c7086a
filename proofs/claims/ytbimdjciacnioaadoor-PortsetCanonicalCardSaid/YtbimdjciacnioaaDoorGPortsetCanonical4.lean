/- The law PortsetCanonical answers true for every input and leaves its arguments as they were. No condition. (Part 4 of 4: the kit's printed words and walks, hand-made contracts and plain laws, joined in build order, without what the theorem does not reach.) -/
import Derived.Test.YtbimdjciacnioaaDoorRows
import Derived.ProofKit
import Derived.OpenShut
import Derived.LaidMore
import Derived.Lay
import Derived.SevenTiedAt
import Derived.Stop.Joined
import Derived.Lib.LaidTab
import Derived.Shelf.Vars
import Derived.HandedShaped
import Derived.WalkKit
import Derived.ShutString
import Derived.ChangeOld
import Derived.Below
import Derived.SizedLaws
import Derived.Carry
import Derived.Test.YtbimdjciacnioaaDoorTie
import Derived.Test.YtbimdjciacnioaaDoorCards
import Derived.Test.YtbimdjciacnioaaDoorGPortsetCanonical3
section
set_option linter.unusedVariables false
set_option linter.unusedSimpArgs false
namespace Go.Proofs.YtbimdjciacnioaaDoor.Q
open Go.RowKit Go.Proofs.YtbimdjciacnioaaDoorW.PrintWords Go.Proofs.YtbimdjciacnioaaDoorW.PrintLast Go.Proofs.YtbimdjciacnioaaDoorW.PrintMore Go.Proofs.YtbimdjciacnioaaDoor.Canon
theorem spl_app (c : UInt8) : ∀ (l cur m : List UInt8), spl c cur (l ++ c :: m) = spl c cur l ++ spl c [] m
  | [], cur, m => by simp [spl]
  | x :: t, cur, m => by
    rw [List.cons_append, spl, spl]
    split
    · rw [spl_app c t [] m]; rfl
    · rw [spl_app c t _ m]
theorem prs_app : ∀ (L M : List (List UInt8)) (a b : List Sn), prs (L ++ M) a b = match prs L a b with | .inl (a', b') => prs M a' b' | .inr e => .inr e
  | [], M, a, b => rfl
  | t :: ts, M, a, b => by
    rw [List.cons_append, prs, prs]
    by_cases he : (itemV (bare t)).2.2 = 0
    · rw [if_pos he, if_pos he]
      by_cases hx : excl t = true
      · rw [if_pos hx, if_pos hx, prs_app ts M _ _]
      · rw [if_neg hx, if_neg hx, prs_app ts M _ _]
    · rw [if_neg he, if_neg he]
theorem prs_err : ∀ (L : List (List UInt8)) (a b : List Sn) (e : Int), prs L a b = .inr e → e ≠ 0
  | [], a, b, e, h => by cases h
  | t :: ts, a, b, e, h => by
    rw [prs] at h
    by_cases he : (itemV (bare t)).2.2 = 0
    · rw [if_pos he] at h
      by_cases hx : excl t = true
      · rw [if_pos hx] at h; exact prs_err ts _ _ e h
      · rw [if_neg hx] at h; exact prs_err ts _ _ e h
    · rw [if_neg he] at h
      injection h with h
      rw [← h]
      exact he
theorem parse_err {l : List UInt8} {e : Int} (h : parseV l = .inr e) : e ≠ 0 := by
  unfold parseV at h
  split at h
  · injection h with h; rw [← h]; decide
  · split at h
    · cases h
    · split at h
      · injection h with h; rw [← h]; decide
      · exact prs_err _ _ _ _ h
theorem any_item : (itemV (bare anyL)).2.2 = 14 := by kernel_rfl
theorem zero_item : itemV (bare [33, 48]) = (0, 0, 0) ∧ excl [33, 48] = true := by constructor <;> kernel_rfl
theorem parse_more {l : List UInt8} {a b : List Sn} (h : parseV l = .inl (a, b)) : (l = anyL ∧ parseV (l ++ [44, 33, 48]) = .inr 14) ∨ parseV (l ++ [44, 33, 48]) = .inr 3 ∨ parseV (l ++ [44, 33, 48]) = .inl (a, b ++ [(⟨0, 0⟩ : Sn)]) := by
  have hs : spl 44 [] (l ++ [44, 33, 48]) = spl 44 [] l ++ [[33, 48]] := spl_app 44 l [] [33, 48]
  have hne : l ++ [44, 33, 48] ≠ anyL := by
    intro e
    have h1 : (l ++ [44, 33, 48]).getLast? = some 121 := by rw [e]; rfl
    rw [List.getLast?_append] at h1
    simp at h1
  have hp : parseV (l ++ [44, 33, 48]) = if (l ++ [44, 33, 48]).length > 1024 then .inr 3 else if (spl 44 [] l ++ [[33, 48]]).length > 64 then .inr 3 else prs (spl 44 [] l ++ [[33, 48]]) [] [] := by
    unfold parseV
    rw [if_neg hne, hs]
  rw [hp]
  by_cases h1 : (l ++ [44, 33, 48]).length > 1024
  · rw [if_pos h1]; exact .inr (.inl rfl)
  · rw [if_neg h1]
    by_cases h2 : (spl 44 [] l ++ [[33, 48]]).length > 64
    · rw [if_pos h2]; exact .inr (.inl rfl)
    · rw [if_neg h2]
      by_cases ha : l = anyL
      · refine .inl ⟨ha, ?_⟩
        rw [ha]
        have : spl 44 [] anyL = [anyL] := rfl
        rw [this, List.singleton_append, prs, if_neg (by rw [any_item]; decide), any_item]
      · refine .inr (.inr ?_)
        unfold parseV at h
        rw [List.length_append] at h1 h2
        rw [if_neg (by omega), if_neg ha, if_neg (by omega)] at h
        rw [prs_app, h]
        dsimp only
        rw [prs, zero_item.1, zero_item.2]
        rfl
end Go.Proofs.YtbimdjciacnioaaDoor.Q
end

section
namespace Go.Proofs.YtbimdjciacnioaaDoor.Q
open Go.RowKit Go.Proofs.YtbimdjciacnioaaDoorW.PrintWords Go.Proofs.YtbimdjciacnioaaDoorW.PrintLast Go.Proofs.YtbimdjciacnioaaDoorW.PrintMore
attribute [local go_sem] max2_int min2_int max_two min_two max_three min_three max_four min_four
set_option linter.unusedVariables false
set_option linter.unusedSimpArgs false
def intrusionlaw08_large.f (l0 : List (S33)) : Option (Bool) := some (decide ((l0.length : Int) > 60))
end Go.Proofs.YtbimdjciacnioaaDoor.Q
end

section
set_option linter.unusedVariables false
set_option linter.unusedSimpArgs false
namespace Go.Proofs.YtbimdjciacnioaaDoor.Q
open Go.RowKit Go.Proofs.YtbimdjciacnioaaDoorW.PrintWords Go.Proofs.YtbimdjciacnioaaDoorW.PrintLast Go.Proofs.YtbimdjciacnioaaDoorW.PrintMore Go.Proofs.YtbimdjciacnioaaDoor.Canon
theorem i1 : itemV (bare [56, 48]) = (80, 80, 0) ∧ excl [56, 48] = false := by constructor <;> kernel_rfl
theorem i2 : itemV (bare [56, 48, 48, 48, 58, 56, 48, 48, 50]) = (8000, 8002, 0) ∧ excl [56, 48, 48, 48, 58, 56, 48, 48, 50] = false := by constructor <;> kernel_rfl
theorem i3 : itemV (bare [33, 56, 48, 48, 49]) = (8001, 8001, 0) ∧ excl [33, 56, 48, 48, 49] = true := by constructor <;> kernel_rfl
theorem ex1 : parseV [56, 48, 44, 56, 48, 48, 48, 58, 56, 48, 48, 50, 44, 33, 56, 48, 48, 49] = .inl ([(⟨80, 80⟩ : Sn), ⟨8000, 8002⟩], [(⟨8001, 8001⟩ : Sn)]) := by
  have e : spl 44 [] [56, 48, 44, 56, 48, 48, 48, 58, 56, 48, 48, 50, 44, 33, 56, 48, 48, 49] = [[56, 48], [56, 48, 48, 48, 58, 56, 48, 48, 50], [33, 56, 48, 48, 49]] := by rfl
  unfold parseV
  rw [if_neg (by decide), if_neg (by decide), e, if_neg (by decide), prs, i1.1, i1.2]
  dsimp only
  rw [if_pos rfl, if_neg Bool.false_ne_true, prs, i2.1, i2.2]
  dsimp only
  rw [if_pos rfl, if_neg Bool.false_ne_true, prs, i3.1, i3.2]
  rfl
theorem i4 : (itemV (bare [55, 58, 53])).2.2 = 4 := by kernel_rfl
theorem i5 : (itemV (bare [])).2.2 = 14 := by kernel_rfl
theorem ex2 : parseV [55, 58, 53] = .inr 4 := by
  have e : spl 44 [] [55, 58, 53] = [[55, 58, 53]] := by rfl
  unfold parseV
  rw [if_neg (by decide), if_neg (by decide), e, if_neg (by decide), prs, if_neg (by rw [i4]; decide), i4]
theorem ex3 : parseV [] = .inr 14 := by
  have e : spl 44 [] [] = [[]] := by rfl
  unfold parseV
  rw [if_neg (by decide), if_neg (by decide), e, if_neg (by decide), prs, if_neg (by rw [i5]; decide), i5]
theorem parse_at (s : ByteArray) (l : List UInt8) (v : (List Sn × List Sn) ⊕ Int) (h : s.data.toList = l) (hv : parseV l = v) : Res (fun k => portset_Parse.f k s) v := by
  have p := parse_spec s
  rw [h, hv] at p
  exact p
theorem awake8_ev : Ev (fun k => intrusionlaw08_awake.f k) true := by
  have p1 := parse_at (⟨#[56, 48, 44, 56, 48, 48, 48, 58, 56, 48, 48, 50, 44, 33, 56, 48, 48, 49]⟩ : ByteArray) _ _ rfl ex1
  have p2 := parse_at (⟨#[55, 58, 53]⟩ : ByteArray) _ _ rfl ex2
  have p3 := parse_at (⟨#[]⟩ : ByteArray) _ _ rfl ex3
  obtain ⟨r1, q1, c1⟩ := p1
  obtain ⟨r4, q4, c4⟩ := eval_spec [] [(⟨0, 1023⟩ : Sn)] (by decide) (by decide)
  obtain ⟨r5, c5, _, _, _, q5, _⟩ := format_spec [(⟨1, 2⟩ : Sn), ⟨9, 9⟩] (by decide)
  have h1 : r1 = [(⟨80, 80⟩ : Sn), ⟨8000, 8000⟩, ⟨8002, 8002⟩] := c1.uniq ⟨by simp [CanFrom, sp], by simp, fun n => by
    unfold evP
    simp only [sm_cons, sm_nil, or_false, reduceCtorEq, false_or]
    omega⟩
  have h4 : r4 = [(⟨1024, 65535⟩ : Sn)] := c4.uniq ⟨by simp [CanFrom, sp], by simp, fun n => by
    unfold evP
    simp only [sm_cons, sm_nil, or_false, true_or, true_and]
    omega⟩
  have h5 : r5 = [(⟨1, 2⟩ : Sn), ⟨9, 9⟩] := c5.uniq ⟨by simp [CanFrom, sp], by simp, fun n => by
    unfold portP
    simp only [sm_cons, sm_nil, or_false]
    omega⟩
  subst h1 h4 h5
  unfold intrusionlaw08_awake.f
  refine Ev.bind q1 (Ev.bind p2 (Ev.bind p3 (Ev.bind q4 (Ev.bind (same8_ev _ (by decide)) ?_))))
  simp only [if_true]
  refine Ev.bind (same8_ev _ (by decide)) ?_
  simp only [if_true]
  refine Ev.bind q5 ?_
  have e : (mkB (fmtV [(⟨1, 2⟩ : Sn), ⟨9, 9⟩])).toList = ([49, 58, 50, 44, 57] : List UInt8) := by
    rw [ByteArray.toList_eq, mkB_list]
    kernel_rfl
  refine Ev.congr (fun k => if_pos e) ?_
  unfold portset_All.f
  simp only [Option.bind_some]
  exact Ev.bind (same8_ev _ (by decide)) (Ev.now _)
theorem can_len : ∀ (l : List Sn) (lo : Int), CanFrom lo (l.map sp) → (∀ x ∈ l, x.f1 ≤ 4294967296) → l = [] ∨ (l.length : Int) ≤ 4294967296 - lo + 1
  | [], _, _, _ => .inl rfl
  | x :: t, lo, c, h => by
    obtain ⟨c1, c2, c3⟩ := c
    simp only [sp] at c1 c2 c3
    have hx := h x (by simp)
    right
    rcases can_len t _ c3 (fun y hy => h y (by simp [hy])) with rfl | ih
    · simp only [List.length_cons, List.length_nil]; omega
    · rw [List.length_cons]; omega
theorem can_short {P : Int → Prop} {r : List Sn} (h : Can P r) : r.length < 5000000000 := by
  rcases can_len r 0 h.1 h.2.1 with rfl | h
  · decide
  · omega
theorem then_awake : Ev (fun k => (intrusionlaw08_awake.f k).bind fun t => some t) true := Ev.bind awake8_ev (Ev.now _)
end Go.Proofs.YtbimdjciacnioaaDoor.Q
end

section
set_option linter.unusedVariables false
set_option linter.unusedSimpArgs false
namespace Go.Proofs.YtbimdjciacnioaaDoor.Pure
open Go.RowKit Go.Proofs.YtbimdjciacnioaaDoor.Q Go.Proofs.YtbimdjciacnioaaDoor.Canon Go.Proofs.YtbimdjciacnioaaDoorW.PrintWords Go.Proofs.YtbimdjciacnioaaDoorW.PrintLast
theorem PortsetCanonical : ∀ (a0 : ByteArray), a0.size ≤ 140737488351232 → ∃ k, intrusionlaw08_PortsetCanonical.f k a0 = some true := by
  intro a0 _
  refine Ev.rounds (g := fun k => intrusionlaw08_PortsetCanonical.f k a0) ?_
  unfold intrusionlaw08_PortsetCanonical.f
  by_cases h : (a0.size : Int) > 1000
  · exact Ev.congr (fun k => if_pos h) then_awake
  · refine Ev.congr (fun k => if_neg h) ?_
    cases hv : parseV a0.data.toList with
    | inr e =>
      have p := parse_at a0 _ _ rfl hv
      refine Ev.bind p ?_
      exact Ev.congr (fun k => (if_neg (parse_err hv)).trans (if_pos rfl)) then_awake
    | inl ab =>
      obtain ⟨a, b⟩ := ab
      obtain ⟨r, p1, p2⟩ := parse_at a0 _ _ rfl hv
      refine Ev.bind p1 ?_
      refine Ev.congr (fun k => (if_pos rfl).trans (if_pos (by omega))) ?_
      have he : (a0 ++ (⟨#[44, 33, 48]⟩ : ByteArray)).data.toList = a0.data.toList ++ [44, 33, 48] := by
        rw [ByteArray.data_append, Array.toList_append]
      rcases parse_more hv with ⟨ha, hm⟩ | hm | hm
      · have q := parse_at (a0 ++ (⟨#[44, 33, 48]⟩ : ByteArray)) _ _ he hm
        refine Ev.bind q ?_
        exact Ev.congr (fun k => (if_neg (by decide)).trans ((if_neg (by decide)).trans ((if_pos rfl).trans (if_pos (by rw [ByteArray.toList_eq]; exact ha))))) then_awake
      · have q := parse_at (a0 ++ (⟨#[44, 33, 48]⟩ : ByteArray)) _ _ he hm
        refine Ev.bind q ?_
        exact Ev.congr (fun k => (if_neg (by decide)).trans (if_pos rfl)) then_awake
      · obtain ⟨s, q1, q2⟩ := parse_at (a0 ++ (⟨#[44, 33, 48]⟩ : ByteArray)) _ _ he hm
        refine Ev.bind q1 ?_
        refine Ev.congr (fun k => if_pos rfl) ?_
        have hr := can_short p2
        obtain ⟨m, m1, m2, _⟩ := minus_spec r [(⟨0, 0⟩ : Sn)] (by omega) (by decide)
        have e : m = s := m2.uniq (q2.congr (fun n => by
          unfold evP MinusP
          rw [p2.2.2 n, sm_append, sm_cons, sm_nil]
          unfold evP
          constructor
          · rintro ⟨h1, h2, h3, h4⟩; exact ⟨⟨h1, fun h => h2 (.inl h), h3, h4⟩, fun h => h2 (.inr h), h3, by omega⟩
          · rintro ⟨⟨h1, h2, h3, h4⟩, h5, h6, h7⟩; exact ⟨h1, fun h => h.elim h2 h5, h3, h4⟩))
        subst e
        refine Ev.bind m1 (Ev.bind (same8_ev m (by have := can_short m2; omega)) ?_)
        refine Ev.congr (fun k => if_pos rfl) ?_
        obtain ⟨z, z1, z2⟩ := subset_evP r allS (by omega) (by decide)
        have ez : z = [] := z1.uniq ⟨trivial, by simp, fun n => by
          rw [sm_nil]
          unfold MinusP
          rw [p2.2.2 n, sm_all]
          unfold evP
          constructor
          · exact fun h => h.elim
          · rintro ⟨⟨_, _, h3, h4⟩, h5, _⟩; exact h5 ⟨h3, h4⟩⟩
        subst ez
        unfold portset_All.f
        simp only [Option.bind_some]
        refine Ev.bind z2 ?_
        exact Ev.congr (fun k => if_pos rfl) then_awake
end Go.Proofs.YtbimdjciacnioaaDoor.Pure
end

section
set_option linter.unusedVariables false
namespace Go.Proofs.YtbimdjciacnioaaDoor.Q
open Go.RowKit
theorem returns_laid {H : Type} {enc : TypeId × Value → H} {a : Assume} {C : Checked} {os : Os} {f : FuncId} {fn : Func} {s : ChangeSpec} {conds : List PathCond} {apart fresh handsOn again : Bool} {X : World → Array Value → Prop}
    (hX : ∀ (w w' : World) (args : Array Value), w.heap = w'.heap → X w args → X w' args)
    (own : ownKnob C.prog.godebug = none) (started : os.Started) (noInit : C.prog.inits.idxOf? f = none) (hfn : C.prog.funcs[f]? = some fn)
    (witness : ∃ (w : World) (tape : Tape) (i : Input), w.os = os ∧ (w.forCall tape i).Shaped C.prog ∧ i.vars = [] ∧ Input.okWide C.prog (w.forCall tape i) .any w.heap.size f i ∧
      ((s.pre enc C.prog fn conds apart (w.forCall tape i).memory i.args ∧ X (w.forCall tape i).memory i.args) ∧ sizedMet enc C.prog fn (OpenSpec.ofChange s) apart (w.forCall tape i).memory i.args) ∧ a.holds C.prog (lone (Frame.enter C.prog f i.args .normal) [] (w.forCall tape i)))
    (contract : ∀ (W : World) (base : Nat) (args : Array Value) (ds gs : List (DataW H)) (before : List MemPlace),
      (∀ (j : Nat) t v, fn.params[j]? = some t → args[j]? = some v → Value.okWide C.prog W .any base t v) →
      DataW.Whole enc C.prog fn.params.toList s.vars apart W args.toList ds gs before →
      conds.all (PathCond.test C.prog ⟨fn.params.toList, ds, s.plain.varTypes C.prog, gs⟩) = true →
      (DataW.weightsEach C.prog (fn.params.toList ++ s.plain.varTypes C.prog) (ds ++ gs)).all (· ≤ reachBytes) = true → X W args → W.ShapedOpen C.prog →
      a.holds C.prog (lone (Frame.enter C.prog f args .normal) [] W) →
      Calls C.prog f args W fun e W' => ∃ v, e = .returned v ∧ s.post enc C.prog fn apart fresh handsOn again W args v W') :
    ReturnsInHanded a C os f .any (fun w args => (s.pre enc C.prog fn conds apart w args ∧ X w args) ∧ sizedMet enc C.prog fn (OpenSpec.ofChange s) apart w args) (s.post enc C.prog fn apart fresh handsOn again) := by
  refine returnsInHanded_of_calls own started noInit witness ?_
  intro w tape i _ hsh _ hok hpre hholds
  obtain ⟨_, _, _, fn', hfn', _, _, _, _, hval⟩ := hok
  have e : fn' = fn := Option.some.inj (hfn'.symm.trans hfn)
  subst e
  obtain ⟨⟨⟨ds, gs, before, hw, hc⟩, hx⟩, hz⟩ := hpre
  have hw' := DataW.Whole.of_heap (w' := w.forCall tape i) (by rfl) hw
  refine (contract (w.forCall tape i) w.heap.size i.args ds gs before hval hw' hc (hz.weights hw) (hX _ _ _ (by rfl) hx) hsh hholds).mono fun e W' ⟨v, he, hp⟩ => ?_
  subst he
  exact ChangeSpec.post_blind hp
theorem laidVars_at {P : Program} {W : World} : ∀ {laid : List (String × DataW Unit)} {ps : List MemPlace}, DataW.LaidVars P W laid ps → ∀ (i : Nat) (n : String) (d : DataW Unit), laid[i]? = some (n, d) →
    ∃ g t cs fuel p, P.globalNamed n = some g ∧ (P.globals[g]?).map (·.type) = some t ∧ W.var? P n = some cs ∧ DataW.trod (fun _ => ()) P W 0 (fun _ => true) false fuel t cs.toList = some (d, p)
  | [], _, _, i, _, _, h => by simp at h
  | (m, c) :: r, ps, h, i, n, d, hi => by
    obtain ⟨g, t, cs, fuel, p, q, h1, h2, h3, h4, h5, _⟩ := h
    cases i with
    | zero =>
      simp only [List.getElem?_cons_zero, Option.some.injEq, Prod.mk.injEq] at hi
      obtain ⟨rfl, rfl⟩ := hi
      exact ⟨g, t, cs, fuel, p, h1, h2, h3, h4⟩
    | succ j => exact laidVars_at h5 j n d (by simpa using hi)
theorem tabIs_at {P : Program} {W : World} {laid : List (String × DataW Unit)} {name : String} {k : IntKind} {zs : List Int} {g : Nat} {t e : TypeId} {n : Nat} (i : Nat) (hi : laid[i]? = some (name, Lib.tabData k zs))
    (hg : P.globalNamed name = some g) (hty : (P.globals[g]?).map (·.type) = some t) (ht : P.underlying t = some (.array n e)) (he : P.underlying e = some (.int k)) (hce : P.cellsOf e = 1) (hct : P.cellsOf t = n)
    (h : laidMet P laid W) : Lib.TabIs P W name k zs := by
  obtain ⟨ps, h, _⟩ := h
  obtain ⟨g', t', cs, fuel, p, hg', ht', hvar, hd⟩ := laidVars_at h i _ _ hi
  obtain rfl := Option.some.inj (hg.symm.trans hg')
  obtain rfl := Option.some.inj (hty.symm.trans ht')
  unfold Lib.TabIs
  rw [hvar, ← Lib.cells_of_tab ht he hce hct hd]
def laidL : List (String × DataW Unit) := [("math/bits.deBruijn32tab", Rows.laid_math_bits_deBruijn32tab), ("math/bits.deBruijn64tab", Rows.laid_math_bits_deBruijn64tab), ("internal/strconv.uint64pow10", Rows.laid_internal_strconv_uint64pow10), ("unicode/utf8.acceptRanges", Rows.laid_unicode_utf8_acceptRanges), ("unicode/utf8.first", Rows.laid_unicode_utf8_first)]
theorem wok_of {W : World} (h : laidMetH Tryd.prog laidL W) (hs : W.ShapedOpen Tryd.prog) : WOK W := by
  rw [MakeChecks.laidMetH_plain _ _ _ (by kernel_rfl)] at h
  refine ⟨?_, ?_, ?_⟩
  · exact cell_of_shapedOpen_int (t := 3) (zero := #[.int .i64 0]) hs (by decide +kernel) (by kernel_rfl) (by kernel_rfl) (by kernel_rfl) (by kernel_rfl) Tryd.underlying3
  · exact tabIs_at (g := 1) (n := 20) 2 (by rfl) (by kernel_rfl) (t := 110) (by kernel_rfl) (by kernel_rfl) (e := 88) Tryd.underlying88 (by kernel_rfl) (by kernel_rfl) h
  · have hb : Lib.TabIs Tryd.prog W "math/bits.deBruijn64tab" .u8 (Lib.deBruijn64tab.map Int.ofNat) := tabIs_at (g := 5) (n := 64) 1 (by rfl) (by kernel_rfl) (t := 126) (by kernel_rfl) (by kernel_rfl) (e := 5) Tryd.underlying5 (by kernel_rfl) (by kernel_rfl) h
    intro j hj
    have h2 := hb.cell (g := 5) (by kernel_rfl) j (by rw [List.length_map]; exact hj)
    rw [h2, List.getD, List.getD, List.getElem?_map, List.getElem?_eq_getElem hj]
    rfl
set_option maxRecDepth 100000 in
theorem laid_world (os : Os) (args : Array Value) : laidMetH Tryd.prog laidL ((World.laidAll Tryd.prog os laidL).forCall (fun _ _ => 0) ⟨#[], args, []⟩).memory := by
  rw [MakeChecks.laidMetH_plain _ _ _ (by kernel_rfl)]
  exact laidMet_laidAll _ (by kernel_rfl) (by kernel_rfl)
end Go.Proofs.YtbimdjciacnioaaDoor.Q
end

section
namespace Go.Proofs.YtbimdjciacnioaaDoor.portsetCanonical
open Go.ChangeShapes Go.WideShapes Go.ChangeAt Go.RowKit Go.Proofs.YtbimdjciacnioaaDoorW.PrintWords Go.Proofs.YtbimdjciacnioaaDoor.Q
open Go.ChangeMaps (open_string shut_string)
set_option linter.unusedVariables false
theorem own : ownKnob Tryd.prog.godebug = none := by kernel_rfl
set_option maxRecDepth 100000 in
theorem lifted (os : Os) (started : os.Started) (H : Type) (enc : TypeId × Value → H) :
    ReturnsInHanded {} Tryd.checked os 6 .any (fun w args => (Rows.portsetCanonicalSpec.pre enc Tryd.prog Tryd.f6 Rows.portsetCanonicalRow.domain false w args ∧ laidMetH Tryd.prog laidL w) ∧ sizedMet enc Tryd.prog Tryd.f6 (OpenSpec.ofChange Rows.portsetCanonicalSpec) false w args) (Rows.portsetCanonicalSpec.post enc Tryd.prog Tryd.f6 false true false false) := by
  refine returns_laid (C := Tryd.checked) (X := (fun w _ => laidMetH Tryd.prog laidL w)) (fun _ _ _ hh h => h.of_heap hh) own started (by kernel_rfl) Tryd.func6
    (ChangeSpec.witness_shaped (enc := enc) (C := Tryd.checked) (os := os) (X := (fun w _ => laidMetH Tryd.prog laidL w)) false (World.laidAll Tryd.prog os laidL) #[.string ByteArray.empty] 8 (World.laidAll_os _ _ _)
      (World.shaped_of_ZipB (by kernel_rfl) (by kernel_rfl)) (by kernel_rfl) (by kernel_rfl) (by kernel_rfl) (laid_world os _)) ?_
  intro W base args ds gs before hval0 hW hcnd hsz0 hL hsh _
  have hWok := wok_of hL hsh
  have hsz : (DataW.weightsEach Tryd.prog (Tryd.f6.params.toList ++ Rows.portsetCanonicalSpec.plain.varTypes Tryd.prog) (ds ++ gs)).all (· ≤ reachBytes) = true := hsz0
  have hval : ∀ (j : Nat) t v, Tryd.f6.params[j]? = some t → args[j]? = some v → Value.okWide Tryd.prog W .any base t v := hval0
  have hW' := hW
  obtain ⟨p, q, hA0, hV, rfl, hfz, hnd⟩ := hW
  have hA : DataW.TrodAll enc Tryd.prog W 0 (fun _ => true) true Tryd.f6.params.toList args.toList ds p := hA0
  rw [Tryd.params6] at hA hval hsz
  obtain ⟨v0, vs0, d0, ds0, p0, q0, hargs, rfl, rfl, h0, r0⟩ := trodAll_cons hA
  obtain ⟨rfl, rfl, rfl⟩ := trodAll_nil r0
  obtain rfl : args = #[v0] := by cases args; simp_all
  obtain ⟨rfl, rfl⟩ := trodVars_none hV
  obtain ⟨a0, rfl, rfl, rfl, y0⟩ := open_string Tryd.underlying9 (hval 0 9 v0 rfl rfl) h0
  have w0 : a0.size ≤ 140737488351232 := by
    have z := sized_string hsz (j := 0) (t := 9) rfl rfl
    rw [Array.length_toList] at z
    exact z
  clear hA0 hval0 hsz0 hsz
  obtain ⟨k, hk⟩ := Pure.PortsetCanonical a0 w0
  refine (intrusionlaw08_PortsetCanonical.calls k a0 true W  hk hWok).mono fun e W' he => ?_
  obtain ⟨rfl, bel⟩ := he
  exact ⟨_, rfl, _, _, _, [], _, [], hW', trodAll_mk1 (shut_bool Tryd.underlying4 _), (trodAll_cons_mk (shut_string Tryd.underlying9 y0) trodAll_mk0), rfl, bel.frame _, fun h => by cases h⟩
theorem over : Rows.portsetCanonicalRow.holds Tryd.pinned (OpenSpec.ofChange Rows.portsetCanonicalSpec) :=
  OpenClaim.holds_of_wide 6 Tryd.f6 rfl rfl rfl rfl rfl rfl rfl ⟨rfl, rfl, rfl, rfl, rfl⟩ rfl rfl rfl rfl rfl (by kernel_rfl) Tryd.func6 (by kernel_rfl)
    (of_decide_eq_true (by kernel_rfl)) (by unfold Func.isWrapper; first | (rw [if_pos (by decide +kernel)]; kernel_rfl) | (rw [if_neg (by decide +kernel)]; exact ⟨rfl, rfl⟩))
    (fun os started H enc _ => lifted os started H enc)
theorem card : Rows.PortsetCanonicalCardSaid :=
  Claim7.holds_tied_plain_at .later [] [.data, .data, .data, .data, .pinned] true (true, "9aa0131f247035a0e78f96f5864c7c2e57b9ec42f65bc66587a77ae73f0f15cc") false over (fun _ h => by cases h) (by kernel_rfl) (fun _ h => by cases h) portsetCanonical_row_tie rfl ⟨rfl, rfl⟩ (by kernel_rfl) rfl
    (fun f fn hf hfn => by
      obtain rfl : f = 6 := Option.some.inj ((show Tryd.prog.funcNamed "intrusion/intrusionlaw08.PortsetCanonical" = some 6 by kernel_rfl).symm.trans hf) |>.symm
      obtain rfl : fn = Tryd.f6 := (Option.some.inj (Tryd.func6.symm.trans hfn)).symm
      exact ⟨by kernel_rfl, fun j t ht => by
        rw [Tryd.params6] at ht
        have hm : t ∈ [9] := by simpa using Array.mem_of_getElem? ht
        have hall : ([9].all fun u => !Tryd.prog.wantsStandIn u) = true := by kernel_rfl
        exact (show Tryd.prog.wantsStandIn t = false by simpa using List.all_eq_true.1 hall t hm)⟩)
    (by kernel_rfl)
#print axioms card
end Go.Proofs.YtbimdjciacnioaaDoor.portsetCanonical
namespace Go.Proofs.YtbimdjciacnioaaDoor
theorem portsetCanonical_holds : Rows.PortsetCanonicalCardSaid := portsetCanonical.card
end Go.Proofs.YtbimdjciacnioaaDoor
end
