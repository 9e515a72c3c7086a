/- The law PortsetParses answers true for every input and leaves its arguments as they were. No condition. (Part 5 of 5: the kit's printed words and walks, hand-made contracts and plain laws, joined in build order, without what the theorem does not reach.) -/
import Derived.Test.YtbimdjciacnioaaDoorRows
import Derived.ProofKit
import Derived.OpenShut
import Derived.LaidMore
import Derived.Lay
import Derived.SevenTiedAt
import Derived.Stop.Joined
import Derived.Lib.LaidTab
import Derived.Shelf.Vars
import Derived.HandedShaped
import Derived.WalkKit
import Derived.ShutString
import Derived.ChangeOld
import Derived.Below
import Derived.SizedLaws
import Derived.Carry
import Derived.Test.YtbimdjciacnioaaDoorTie
import Derived.Test.YtbimdjciacnioaaDoorCards
import Derived.Test.YtbimdjciacnioaaDoorGPortsetParses4
section
set_option linter.unusedVariables false
set_option linter.unusedSimpArgs false
namespace Go.Proofs.YtbimdjciacnioaaDoor.Q
open Go.RowKit Go.Proofs.YtbimdjciacnioaaDoorW.PrintWords Go.Proofs.YtbimdjciacnioaaDoorW.PrintLast Go.Proofs.YtbimdjciacnioaaDoorW.PrintMore Go.Proofs.YtbimdjciacnioaaDoor.Canon
theorem dec_len {d : Nat} : ∀ {n : Nat}, n < 10 ^ (d + 1) → (Lib.decDigits n).length ≤ d + 1 := by
  induction d with
  | zero =>
    intro n h
    rw [Lib.decDigits, dif_pos (by omega)]
    simp
  | succ d ih =>
    intro n h
    rw [Lib.decDigits]
    split
    · simp
    · have := ih (n := n / 10) (by rw [Nat.pow_succ] at h; omega)
      rw [List.length_append, List.length_singleton]
      omega
theorem mkB_app (a b : List UInt8) : mkB a ++ mkB b = mkB (a ++ b) := mkB_eq (by rw [ByteArray.data_append, Array.toList_append]; rfl)
theorem mkB_size (a : List UInt8) : (mkB a).size = a.length := by rw [size_list, mkB_list]
theorem str_one {d : Nat} (h : d < 10) : strOfNums [(48 + (d : Int)) % 256] = mkB [UInt8.ofNat (48 + d)] := by
  refine mkB_eq ?_
  show [UInt8.ofNat ((48 + (d : Int)) % 256).toNat] = _
  rw [show ((48 + (d : Int)) % 256).toNat = 48 + d from by omega]
theorem digits0 : ∀ (d n : Nat) (acc : List UInt8), n < 10 ^ (d + 1) → n < 4294967296 → acc.length + d ≤ 100 → Ev (fun k => intrusionref08_digits.l0 k (n : Int) (mkB acc)) (mkB (Lib.decDigits n ++ acc))
  | 0, n, acc, h, h2, ha => by
    have hn : n < 10 := by omega
    refine Ev.step (f := fun _ => some (mkB (Lib.decDigits n ++ acc))) (fun k => ?_) (Ev.now _)
    rw [intrusionref08_digits.l0, Option.bind_some, Int.tmod_eq_emod_of_nonneg (by omega), Int.tdiv_eq_ediv_of_nonneg (by omega), show ((n : Int) % 10) = (n : Int) from by omega, show ((n : Int) / 10) = 0 from by omega, wid (x := 48 + (n : Int)) (by omega) (by omega), str_one hn, mkB_size, mkB_size, if_pos (by simp; omega), if_pos (wid (x := 0) (by omega) (by omega)), mkB_app, Lib.decDigits, dif_pos hn]
  | d + 1, n, acc, h, h2, ha => by
    by_cases hn : n < 10
    · refine Ev.step (f := fun _ => some (mkB (Lib.decDigits n ++ acc))) (fun k => ?_) (Ev.now _)
      rw [intrusionref08_digits.l0, Option.bind_some, Int.tmod_eq_emod_of_nonneg (by omega), Int.tdiv_eq_ediv_of_nonneg (by omega), show ((n : Int) % 10) = (n : Int) from by omega, show ((n : Int) / 10) = 0 from by omega, wid (x := 48 + (n : Int)) (by omega) (by omega), str_one hn, mkB_size, mkB_size, if_pos (by simp; omega), if_pos (wid (x := 0) (by omega) (by omega)), mkB_app, Lib.decDigits, dif_pos hn]
    · have ih := digits0 d (n / 10) (UInt8.ofNat (48 + n % 10) :: acc) (by rw [Nat.pow_succ] at h; omega) (by omega) (by simp; omega)
      rw [Lib.decDigits, dif_neg hn, List.append_assoc]
      refine Ev.step (fun k => ?_) ih
      rw [intrusionref08_digits.l0, Option.bind_some, Int.tmod_eq_emod_of_nonneg (by omega), Int.tdiv_eq_ediv_of_nonneg (by omega), show ((n : Int) % 10) = ((n % 10 : Nat) : Int) from by omega, show ((n : Int) / 10) = ((n / 10 : Nat) : Int) from by omega, wid (x := 48 + ((n % 10 : Nat) : Int)) (by omega) (by omega), str_one (by omega), mkB_size, mkB_size, if_pos (by simp; omega), wid (x := ((n / 10 : Nat) : Int)) (by omega) (by omega), if_neg (by omega), mkB_app]
      rfl
theorem digits_ev {x : Int} (h0 : 0 ≤ x) (h1 : x ≤ 65535) : Ev (fun k => intrusionref08_digits.f k x) (mkB (Lib.decDigits x.toNat)) := by
  have h := digits0 4 x.toNat [] (by omega) (by omega) (by simp)
  rw [List.append_nil, show ((x.toNat : Nat) : Int) = x from by omega] at h
  exact h
theorem itoa_ev {x : Int} (h0 : 0 ≤ x) (h1 : x ≤ 65535) : strconv_Itoa.f x = some (mkB (Lib.decDigits x.toNat)) := by
  unfold strconv_Itoa.f
  rw [if_pos (by omega)]
  unfold Lib.itoa
  rw [if_neg (by omega)]
  rfl
theorem dec5 {x : Int} (h0 : 0 ≤ x) (h1 : x ≤ 65535) : (Lib.decDigits x.toNat).length ≤ 5 := dec_len (d := 4) (by omega)
def fmtI (x : Sn) : List UInt8 := if x.f0 < x.f1 then Lib.decDigits x.f0.toNat ++ 58 :: Lib.decDigits x.f1.toNat else Lib.decDigits x.f0.toNat
def fmtV : List Sn → List UInt8
  | [] => [33, 48, 58] ++ Lib.itoa 65535
  | x :: t => if x.f0 = 0 ∧ x.f1 = 65535 then anyL else jn 44 ((x :: t).map fmtI)
def PW (x : Sn) : Prop := 0 ≤ x.f0 ∧ x.f0 ≤ x.f1 ∧ x.f1 ≤ 65535
theorem fmtI_len {x : Sn} (h : PW x) : (fmtI x).length ≤ 11 := by
  obtain ⟨h0, h1, h2⟩ := h
  have a1 := dec5 h0 (by omega)
  have a2 := dec5 (x := x.f1) (by omega) h2
  unfold fmtI
  split
  · rw [List.length_append, List.length_cons]; omega
  · omega
theorem join_jn (L : List (List UInt8)) : Lib.join L [44] = jn 44 L := by
  cases L with
  | nil => rfl
  | cons x t => rw [Lib.join_cons]; rfl
theorem jn_len : ∀ (L : List (List UInt8)) (m : Nat), (∀ x ∈ L, x.length ≤ m) → (jn 44 L).length ≤ (m + 1) * L.length := by
  intro L m
  cases L with
  | nil => intro _; simp [jn]
  | cons x t =>
    intro h
    rw [jn, List.length_append, List.length_cons]
    have hx := h x (by simp)
    have ht : ∀ t : List (List UInt8), (∀ z ∈ t, z.length ≤ m) → ((t.map ((44 : UInt8) :: ·)).flatten).length ≤ (m + 1) * t.length := by
      intro t
      induction t with
      | nil => intro _; simp
      | cons y t ih =>
        intro h
        have := ih (fun z hz => h z (by simp [hz]))
        have hy := h y (by simp)
        rw [List.map_cons, List.flatten_cons, List.length_append, List.length_cons, List.length_cons, Nat.mul_succ]
        omega
    have := ht t (fun z hz => h z (by simp [hz]))
    rw [Nat.mul_succ]
    omega
theorem pform0 (R : List Sn) (hR : R.length ≤ 100000) (hw : ∀ x ∈ R, PW x) : ∀ (d i : Nat) (out : List (List UInt8)), R.length - i = d → i ≤ R.length → out.length = i → (∀ z ∈ out, z.length ≤ 11) → Ev (fun k => portset_Format.l0 k (out.map mkB) R (R.length : Int) (i : Int)) (mkB (jn 44 (out ++ (R.drop i).map fmtI)))
  | 0, i, out, hd, hi, ho, hz => by
    rw [List.drop_of_length_le (by omega), List.map_nil, List.append_nil]
    refine Ev.step (f := fun _ => some (mkB (jn 44 out))) (fun k => ?_) (Ev.now _)
    rw [portset_Format.l0, if_neg (by omega)]
    unfold strings_Join.f
    have e : (out.map mkB).map (·.data.toList) = out := by
      rw [List.map_map]
      have : (fun x : ByteArray => x.data.toList) ∘ mkB = id := by funext x; rfl
      rw [this, List.map_id]
    rw [e]
    show (if (Lib.join out [44]).length ≤ 140737488355328 then if (out.map mkB).length ≤ 140737488355328 then some (mkB (Lib.join out [44])) else none else none).bind _ = _
    rw [join_jn]
    have := jn_len out 11 hz
    rw [if_pos (by omega), if_pos (by rw [List.length_map]; omega)]
    rfl
  | d + 1, i, out, hd, hi, ho, hz => by
    have hl : i < R.length := by omega
    have hx := hw _ (List.getElem_mem hl)
    have ih := pform0 R hR hw d (i + 1) (out ++ [fmtI R[i]]) (by omega) (by omega) (by rw [List.length_append]; simp; omega) (fun z hz2 => by
      rcases List.mem_append.1 hz2 with h | h
      · exact hz z h
      · rw [List.mem_singleton.1 h]; exact fmtI_len hx)
    rw [List.append_assoc] at ih
    rw [List.drop_eq_getElem_cons hl, List.map_cons]
    refine Ev.step (fun k => ?_) ih
    have hlen := fmtI_len hx
    obtain ⟨h0, h1, h2⟩ := hx
    have a1 := dec5 h0 (by omega)
    have a2 := dec5 (x := R[i].f1) (by omega) h2
    rw [portset_Format.l0, if_pos (by omega), if_pos (by omega), if_pos (by omega), rd_at R i hl, itoa_ev h0 (by omega), Option.bind_some, up_b (by omega)]
    by_cases hlt : R[i].f0 < R[i].f1
    · have e58 : (⟨#[58]⟩ : ByteArray) = mkB [58] := rfl
      rw [if_pos hlt, itoa_ev (by omega) h2, Option.bind_some, e58, mkB_app, mkB_size, if_pos (by omega), mkB_size, mkB_size, if_pos (by simp; omega), if_pos (by rw [List.length_map]; omega), mkB_app, List.map_append]
      have : fmtI R[i] = Lib.decDigits R[i].f0.toNat ++ ([58] ++ Lib.decDigits R[i].f1.toNat) := by unfold fmtI; rw [if_pos hlt]; rfl
      rw [this]
      rfl
    · have : fmtI R[i] = Lib.decDigits R[i].f0.toNat := by unfold fmtI; rw [if_neg hlt]
      rw [if_neg hlt, if_pos (by rw [List.length_map]; omega), List.map_append, this]
      rfl
def tailF (R : List Sn) : List UInt8 := (R.map (fun x => (44 : UInt8) :: fmtI x)).flatten
theorem rform_j1 (R : List Sn) (hR : R.length ≤ 100000) (hw : ∀ x ∈ R, PW x) (i : Nat) (hl : i < R.length) (A Z : List UInt8) (hA : A.length ≤ 12 * i + 1) (ih : Ev (fun k => intrusionref08_Format.l0 k R (mkB (A ++ fmtI R[i])) ((i + 1 : Nat) : Int)) (mkB Z)) : Ev (fun k => intrusionref08_Format.j1 k R (mkB A) (i : Int)) (mkB Z) := by
  have hx := hw _ (List.getElem_mem hl)
  obtain ⟨h0, h1, h2⟩ := hx
  have a1 := dec5 h0 (by omega)
  have a2 := dec5 (x := R[i].f1) (by omega) h2
  refine Ev.step (fun k => ?_) (f := fun k => (intrusionref08_digits.f k R[i].f0).bind fun t451 => (if (mkB A).size + t451.size ≤ 9223372036854775807 then (if R[i].f0 = R[i].f1 then (intrusionref08_Format.l0 k R (mkB A ++ t451) ((i + 1 : Nat) : Int)) else (if (mkB A ++ t451).size + 1 ≤ 9223372036854775807 then ((intrusionref08_digits.f k R[i].f1).bind fun t455 => (if ((mkB A ++ t451) ++ (⟨#[58]⟩ : ByteArray)).size + t455.size ≤ 9223372036854775807 then (intrusionref08_Format.l0 k R (((mkB A ++ t451) ++ (⟨#[58]⟩ : ByteArray)) ++ t455) ((i + 1 : Nat) : Int)) else (none))) else (none))) else (none))) (Ev.bind (digits_ev h0 (by omega)) ?_)
  · rw [intrusionref08_Format.j1, if_pos (by omega), if_pos (by omega), rd_at R i hl, up_b (by omega)]
  · refine Ev.congr (fun k => if_pos (by rw [mkB_size, mkB_size]; omega)) ?_
    by_cases he : R[i].f0 = R[i].f1
    · have : fmtI R[i] = Lib.decDigits R[i].f0.toNat := by unfold fmtI; rw [if_neg (by omega)]
      rw [this] at ih
      refine Ev.congr (fun k => if_pos he) ?_
      rw [mkB_app]
      exact ih
    · have : fmtI R[i] = Lib.decDigits R[i].f0.toNat ++ 58 :: Lib.decDigits R[i].f1.toNat := by unfold fmtI; rw [if_pos (by omega)]
      rw [this] at ih
      refine Ev.congr (fun k => (if_neg he).trans (if_pos (by rw [mkB_app, mkB_size, List.length_append]; omega))) ?_
      refine Ev.bind (digits_ev (x := R[i].f1) (by omega) h2) ?_
      have e58 : (⟨#[58]⟩ : ByteArray) = mkB [58] := rfl
      have e : ((mkB A ++ mkB (Lib.decDigits R[i].f0.toNat)) ++ mkB [58]) ++ mkB (Lib.decDigits R[i].f1.toNat) = mkB (A ++ (Lib.decDigits R[i].f0.toNat ++ 58 :: Lib.decDigits R[i].f1.toNat)) := by
        rw [mkB_app, mkB_app, mkB_app, List.append_assoc, List.append_assoc]
        rfl
      rw [e58, e]
      refine Ev.congr (fun k => if_pos (by rw [mkB_app, mkB_app, mkB_size, mkB_size]; simp only [List.length_append, List.length_cons, List.length_nil]; omega)) ih
theorem rform0 (R : List Sn) (hR : R.length ≤ 100000) (hw : ∀ x ∈ R, PW x) : ∀ (d i : Nat) (A : List UInt8), R.length - i = d → i ≤ R.length → 0 < i → A.length ≤ 12 * i → Ev (fun k => intrusionref08_Format.l0 k R (mkB A) (i : Int)) (mkB (A ++ tailF (R.drop i)))
  | 0, i, A, hd, hi, hp, hA => by
    rw [List.drop_of_length_le (by omega), show tailF [] = [] from rfl, List.append_nil]
    refine Ev.step (f := fun _ => some (mkB A)) (fun k => ?_) (Ev.now _)
    rw [intrusionref08_Format.l0, if_neg (by omega)]
  | d + 1, i, A, hd, hi, hp, hA => by
    have hl : i < R.length := by omega
    have hx := hw _ (List.getElem_mem hl)
    have hlen := fmtI_len hx
    have ih := rform0 R hR hw d (i + 1) ((A ++ [44]) ++ fmtI R[i]) (by omega) (by omega) (by omega) (by simp only [List.length_append, List.length_cons, List.length_nil]; omega)
    have hj := rform_j1 R hR hw i hl (A ++ [44]) _ (by simp only [List.length_append, List.length_cons, List.length_nil]; omega) ih
    rw [List.drop_eq_getElem_cons hl]
    have e : A ++ tailF (R[i] :: R.drop (i + 1)) = ((A ++ [44]) ++ fmtI R[i]) ++ tailF (R.drop (i + 1)) := by
      show A ++ ((44 : UInt8) :: fmtI R[i] ++ tailF (R.drop (i + 1))) = _
      simp
    rw [e]
    refine Ev.step (fun k => ?_) hj
    have e44 : (⟨#[44]⟩ : ByteArray) = mkB [44] := rfl
    rw [intrusionref08_Format.l0, if_pos (by omega), if_pos (by omega), mkB_size, if_pos (by omega), e44, mkB_app]
theorem rform_ev (x : Sn) (t : List Sn) (hR : (x :: t).length ≤ 100000) (hw : ∀ y ∈ x :: t, PW y) : Ev (fun k => intrusionref08_Format.l0 k (x :: t) (⟨#[]⟩ : ByteArray) 0) (mkB (jn 44 ((x :: t).map fmtI))) := by
  have hlen := fmtI_len (hw x (by simp))
  have h1 := rform0 (x :: t) hR hw _ 1 (fmtI x) rfl (by simp) (by omega) (by omega)
  have hj := rform_j1 (x :: t) hR hw 0 (by simp) [] _ (by simp) h1
  have e : jn 44 ((x :: t).map fmtI) = fmtI x ++ tailF ((x :: t).drop 1) := by
    rw [List.map_cons, jn]
    show fmtI x ++ ((t.map fmtI).map ((44 : UInt8) :: ·)).flatten = fmtI x ++ tailF t
    rw [List.map_map]
    rfl
  rw [e]
  refine Ev.step (fun k => ?_) hj
  rw [intrusionref08_Format.l0, if_pos (by simp), if_neg (by omega)]
  rfl
theorem itoa_last : Lib.itoa 65535 = [54, 53, 53, 51, 53] := by kernel_rfl
theorem port_wf {l r : List Sn} (h : Can (portP l) r) : ∀ x ∈ r, PW x := fun x hx => by
  obtain ⟨h0, h1, _⟩ := h.wf x hx
  have h2 := (h.2.2 x.f1).1 ((sm_iff r x.f1).2 ⟨x, hx, h1, Int.le_refl _⟩)
  exact ⟨h0, h1, h2.2.2⟩
theorem format_spec (l : List Sn) (hl : l.length < 400) : ∃ r, Can (portP l) r ∧ r.length ≤ l.length + 1 ∧ Ev (fun k => intrusionref08_ports.f k l) r ∧ Ev (fun k => interval_Intersect.f k l allS) r ∧ Ev (fun k => portset_Format.f k l) (mkB (fmtV r)) ∧ Ev (fun k => intrusionref08_Format.f k l) (mkB (fmtV r)) := by
  obtain ⟨r, r1, r2, r3, r4, r5⟩ := ports_spec l hl
  have hw := port_wf r2
  refine ⟨r, r2, r3, r1, r5, ?_, ?_⟩
  · unfold portset_Format.f portset_given.f portset_All.f
    rw [if_pos (by omega)]
    simp only [Option.bind_some]
    refine Ev.bind r4 ?_
    cases r with
    | nil =>
      refine Ev.congr (fun k => if_pos rfl) ?_
      rw [itoa_ev (by omega) (by omega)]
      simp only [Option.bind_some]
      refine Ev.congr (fun k => if_pos (by rw [mkB_size]; have := dec5 (x := 65535) (by omega) (by omega); omega)) ?_
      exact Ev.now _
    | cons x t =>
      refine Ev.congr (fun k => (if_neg (by simp only [List.length_cons]; omega)).trans ((if_pos (by simp only [List.length_cons]; omega)).trans (if_pos (by decide)))) ?_
      have r0 : rd_T33 (x :: t) 0 = x := rfl
      have ra : rd_T33 [(⟨0, 65535⟩ : Sn)] 0 = ⟨0, 65535⟩ := rfl
      rw [r0, ra]
      by_cases h : x.f0 = 0 ∧ x.f1 = 65535
      · refine Ev.congr (fun k => if_pos (by rw [Bool.and_eq_true, beq_iff_eq, beq_iff_eq]; exact h)) ?_
        rw [fmtV, if_pos h]
        exact Ev.now _
      · refine Ev.congr (fun k => if_neg (by rw [Bool.and_eq_true, beq_iff_eq, beq_iff_eq]; exact h)) ?_
        rw [fmtV, if_neg h]
        have := pform0 (x :: t) (by omega) hw _ 0 [] rfl (by omega) rfl (by simp)
        simpa using this
  · unfold intrusionref08_Format.f
    refine Ev.bind r1 ?_
    cases r with
    | nil =>
      refine Ev.congr (fun k => if_pos rfl) ?_
      rw [fmtV, itoa_last]
      exact Ev.now _
    | cons x t =>
      refine Ev.congr (fun k => (if_neg (by simp only [List.length_cons]; omega)).trans (if_pos (by simp only [List.length_cons]; omega))) ?_
      have r0 : rd_T33 (x :: t) 0 = x := rfl
      rw [r0]
      by_cases h : x.f0 = 0 ∧ x.f1 = 65535
      · refine Ev.congr (fun k => if_pos (by rw [Bool.and_eq_true, beq_iff_eq, beq_iff_eq]; exact h)) ?_
        rw [fmtV, if_pos h]
        exact Ev.now _
      · refine Ev.congr (fun k => if_neg (by rw [Bool.and_eq_true, beq_iff_eq, beq_iff_eq]; exact h)) ?_
        rw [fmtV, if_neg h]
        exact rform_ev x t (by omega) hw
end Go.Proofs.YtbimdjciacnioaaDoor.Q
end

section
namespace Go.Proofs.YtbimdjciacnioaaDoor.Q
open Go.RowKit Go.Proofs.YtbimdjciacnioaaDoorW.PrintWords Go.Proofs.YtbimdjciacnioaaDoorW.PrintLast Go.Proofs.YtbimdjciacnioaaDoorW.PrintMore
attribute [local go_sem] max2_int min2_int max_two min_two max_three min_three max_four min_four
set_option linter.unusedVariables false
set_option linter.unusedSimpArgs false
def intrusionlaw08_large.f (l0 : List (S33)) : Option (Bool) := some (decide ((l0.length : Int) > 60))
end Go.Proofs.YtbimdjciacnioaaDoor.Q
end

section
set_option linter.unusedVariables false
set_option linter.unusedSimpArgs false
namespace Go.Proofs.YtbimdjciacnioaaDoor.Q
open Go.RowKit Go.Proofs.YtbimdjciacnioaaDoorW.PrintWords Go.Proofs.YtbimdjciacnioaaDoorW.PrintLast Go.Proofs.YtbimdjciacnioaaDoorW.PrintMore Go.Proofs.YtbimdjciacnioaaDoor.Canon
theorem i1 : itemV (bare [56, 48]) = (80, 80, 0) ∧ excl [56, 48] = false := by constructor <;> kernel_rfl
theorem i2 : itemV (bare [56, 48, 48, 48, 58, 56, 48, 48, 50]) = (8000, 8002, 0) ∧ excl [56, 48, 48, 48, 58, 56, 48, 48, 50] = false := by constructor <;> kernel_rfl
theorem i3 : itemV (bare [33, 56, 48, 48, 49]) = (8001, 8001, 0) ∧ excl [33, 56, 48, 48, 49] = true := by constructor <;> kernel_rfl
theorem ex1 : parseV [56, 48, 44, 56, 48, 48, 48, 58, 56, 48, 48, 50, 44, 33, 56, 48, 48, 49] = .inl ([(⟨80, 80⟩ : Sn), ⟨8000, 8002⟩], [(⟨8001, 8001⟩ : Sn)]) := by
  have e : spl 44 [] [56, 48, 44, 56, 48, 48, 48, 58, 56, 48, 48, 50, 44, 33, 56, 48, 48, 49] = [[56, 48], [56, 48, 48, 48, 58, 56, 48, 48, 50], [33, 56, 48, 48, 49]] := by rfl
  unfold parseV
  rw [if_neg (by decide), if_neg (by decide), e, if_neg (by decide), prs, i1.1, i1.2]
  dsimp only
  rw [if_pos rfl, if_neg Bool.false_ne_true, prs, i2.1, i2.2]
  dsimp only
  rw [if_pos rfl, if_neg Bool.false_ne_true, prs, i3.1, i3.2]
  rfl
theorem i4 : (itemV (bare [55, 58, 53])).2.2 = 4 := by kernel_rfl
theorem i5 : (itemV (bare [])).2.2 = 14 := by kernel_rfl
theorem ex2 : parseV [55, 58, 53] = .inr 4 := by
  have e : spl 44 [] [55, 58, 53] = [[55, 58, 53]] := by rfl
  unfold parseV
  rw [if_neg (by decide), if_neg (by decide), e, if_neg (by decide), prs, if_neg (by rw [i4]; decide), i4]
theorem ex3 : parseV [] = .inr 14 := by
  have e : spl 44 [] [] = [[]] := by rfl
  unfold parseV
  rw [if_neg (by decide), if_neg (by decide), e, if_neg (by decide), prs, if_neg (by rw [i5]; decide), i5]
theorem parse_at (s : ByteArray) (l : List UInt8) (v : (List Sn × List Sn) ⊕ Int) (h : s.data.toList = l) (hv : parseV l = v) : Res (fun k => portset_Parse.f k s) v := by
  have p := parse_spec s
  rw [h, hv] at p
  exact p
theorem awake8_ev : Ev (fun k => intrusionlaw08_awake.f k) true := by
  have p1 := parse_at (⟨#[56, 48, 44, 56, 48, 48, 48, 58, 56, 48, 48, 50, 44, 33, 56, 48, 48, 49]⟩ : ByteArray) _ _ rfl ex1
  have p2 := parse_at (⟨#[55, 58, 53]⟩ : ByteArray) _ _ rfl ex2
  have p3 := parse_at (⟨#[]⟩ : ByteArray) _ _ rfl ex3
  obtain ⟨r1, q1, c1⟩ := p1
  obtain ⟨r4, q4, c4⟩ := eval_spec [] [(⟨0, 1023⟩ : Sn)] (by decide) (by decide)
  obtain ⟨r5, c5, _, _, _, q5, _⟩ := format_spec [(⟨1, 2⟩ : Sn), ⟨9, 9⟩] (by decide)
  have h1 : r1 = [(⟨80, 80⟩ : Sn), ⟨8000, 8000⟩, ⟨8002, 8002⟩] := c1.uniq ⟨by simp [CanFrom, sp], by simp, fun n => by
    unfold evP
    simp only [sm_cons, sm_nil, or_false, reduceCtorEq, false_or]
    omega⟩
  have h4 : r4 = [(⟨1024, 65535⟩ : Sn)] := c4.uniq ⟨by simp [CanFrom, sp], by simp, fun n => by
    unfold evP
    simp only [sm_cons, sm_nil, or_false, true_or, true_and]
    omega⟩
  have h5 : r5 = [(⟨1, 2⟩ : Sn), ⟨9, 9⟩] := c5.uniq ⟨by simp [CanFrom, sp], by simp, fun n => by
    unfold portP
    simp only [sm_cons, sm_nil, or_false]
    omega⟩
  subst h1 h4 h5
  unfold intrusionlaw08_awake.f
  refine Ev.bind q1 (Ev.bind p2 (Ev.bind p3 (Ev.bind q4 (Ev.bind (same8_ev _ (by decide)) ?_))))
  simp only [if_true]
  refine Ev.bind (same8_ev _ (by decide)) ?_
  simp only [if_true]
  refine Ev.bind q5 ?_
  have e : (mkB (fmtV [(⟨1, 2⟩ : Sn), ⟨9, 9⟩])).toList = ([49, 58, 50, 44, 57] : List UInt8) := by
    rw [ByteArray.toList_eq, mkB_list]
    kernel_rfl
  refine Ev.congr (fun k => if_pos e) ?_
  unfold portset_All.f
  simp only [Option.bind_some]
  exact Ev.bind (same8_ev _ (by decide)) (Ev.now _)
theorem can_len : ∀ (l : List Sn) (lo : Int), CanFrom lo (l.map sp) → (∀ x ∈ l, x.f1 ≤ 4294967296) → l = [] ∨ (l.length : Int) ≤ 4294967296 - lo + 1
  | [], _, _, _ => .inl rfl
  | x :: t, lo, c, h => by
    obtain ⟨c1, c2, c3⟩ := c
    simp only [sp] at c1 c2 c3
    have hx := h x (by simp)
    right
    rcases can_len t _ c3 (fun y hy => h y (by simp [hy])) with rfl | ih
    · simp only [List.length_cons, List.length_nil]; omega
    · rw [List.length_cons]; omega
theorem can_short {P : Int → Prop} {r : List Sn} (h : Can P r) : r.length < 5000000000 := by
  rcases can_len r 0 h.1 h.2.1 with rfl | h
  · decide
  · omega
theorem then_awake : Ev (fun k => (intrusionlaw08_awake.f k).bind fun t => some t) true := Ev.bind awake8_ev (Ev.now _)
end Go.Proofs.YtbimdjciacnioaaDoor.Q
end

section
set_option linter.unusedVariables false
set_option linter.unusedSimpArgs false
namespace Go.Proofs.YtbimdjciacnioaaDoor.Pure
open Go.RowKit Go.Proofs.YtbimdjciacnioaaDoor.Q Go.Proofs.YtbimdjciacnioaaDoor.Canon Go.Proofs.YtbimdjciacnioaaDoorW.PrintWords Go.Proofs.YtbimdjciacnioaaDoorW.PrintLast
theorem PortsetParses : ∀ (a0 : ByteArray), a0.size ≤ 140737488351232 → ∃ k, intrusionlaw08_PortsetParses.f k a0 = some true := by
  intro a0 _
  refine Ev.rounds (g := fun k => intrusionlaw08_PortsetParses.f k a0) ?_
  unfold intrusionlaw08_PortsetParses.f
  by_cases h : (a0.size : Int) > 5000
  · exact Ev.congr (fun k => if_pos h) then_awake
  · refine Ev.congr (fun k => if_neg h) ?_
    have p := parse_spec a0
    have q := rparse_spec a0
    have key : ∃ r e, r.length < 5000000000 ∧ Ev (fun k => portset_Parse.f k a0) (r, e) ∧ Ev (fun k => intrusionref08_Parse.f k a0) (r, e) := by
      generalize parseV a0.data.toList = s at p q
      cases s with
      | inl ab =>
        obtain ⟨r, p1, p2⟩ := p
        obtain ⟨r', q1, q2⟩ := q
        have e := p2.uniq q2
        subst e
        exact ⟨r, 0, can_short p2, p1, q1⟩
      | inr e => exact ⟨[], e, by decide, p, q⟩
    obtain ⟨r, e, hr, p1, q1⟩ := key
    refine Ev.bind p1 (Ev.bind q1 (Ev.bind (same8_ev r (by omega)) ?_))
    exact Ev.congr (fun k => (if_pos rfl).trans (if_pos rfl)) then_awake
end Go.Proofs.YtbimdjciacnioaaDoor.Pure
end

section
set_option linter.unusedVariables false
namespace Go.Proofs.YtbimdjciacnioaaDoor.Q
open Go.RowKit
theorem returns_laid {H : Type} {enc : TypeId × Value → H} {a : Assume} {C : Checked} {os : Os} {f : FuncId} {fn : Func} {s : ChangeSpec} {conds : List PathCond} {apart fresh handsOn again : Bool} {X : World → Array Value → Prop}
    (hX : ∀ (w w' : World) (args : Array Value), w.heap = w'.heap → X w args → X w' args)
    (own : ownKnob C.prog.godebug = none) (started : os.Started) (noInit : C.prog.inits.idxOf? f = none) (hfn : C.prog.funcs[f]? = some fn)
    (witness : ∃ (w : World) (tape : Tape) (i : Input), w.os = os ∧ (w.forCall tape i).Shaped C.prog ∧ i.vars = [] ∧ Input.okWide C.prog (w.forCall tape i) .any w.heap.size f i ∧
      ((s.pre enc C.prog fn conds apart (w.forCall tape i).memory i.args ∧ X (w.forCall tape i).memory i.args) ∧ sizedMet enc C.prog fn (OpenSpec.ofChange s) apart (w.forCall tape i).memory i.args) ∧ a.holds C.prog (lone (Frame.enter C.prog f i.args .normal) [] (w.forCall tape i)))
    (contract : ∀ (W : World) (base : Nat) (args : Array Value) (ds gs : List (DataW H)) (before : List MemPlace),
      (∀ (j : Nat) t v, fn.params[j]? = some t → args[j]? = some v → Value.okWide C.prog W .any base t v) →
      DataW.Whole enc C.prog fn.params.toList s.vars apart W args.toList ds gs before →
      conds.all (PathCond.test C.prog ⟨fn.params.toList, ds, s.plain.varTypes C.prog, gs⟩) = true →
      (DataW.weightsEach C.prog (fn.params.toList ++ s.plain.varTypes C.prog) (ds ++ gs)).all (· ≤ reachBytes) = true → X W args → W.ShapedOpen C.prog →
      a.holds C.prog (lone (Frame.enter C.prog f args .normal) [] W) →
      Calls C.prog f args W fun e W' => ∃ v, e = .returned v ∧ s.post enc C.prog fn apart fresh handsOn again W args v W') :
    ReturnsInHanded a C os f .any (fun w args => (s.pre enc C.prog fn conds apart w args ∧ X w args) ∧ sizedMet enc C.prog fn (OpenSpec.ofChange s) apart w args) (s.post enc C.prog fn apart fresh handsOn again) := by
  refine returnsInHanded_of_calls own started noInit witness ?_
  intro w tape i _ hsh _ hok hpre hholds
  obtain ⟨_, _, _, fn', hfn', _, _, _, _, hval⟩ := hok
  have e : fn' = fn := Option.some.inj (hfn'.symm.trans hfn)
  subst e
  obtain ⟨⟨⟨ds, gs, before, hw, hc⟩, hx⟩, hz⟩ := hpre
  have hw' := DataW.Whole.of_heap (w' := w.forCall tape i) (by rfl) hw
  refine (contract (w.forCall tape i) w.heap.size i.args ds gs before hval hw' hc (hz.weights hw) (hX _ _ _ (by rfl) hx) hsh hholds).mono fun e W' ⟨v, he, hp⟩ => ?_
  subst he
  exact ChangeSpec.post_blind hp
theorem laidVars_at {P : Program} {W : World} : ∀ {laid : List (String × DataW Unit)} {ps : List MemPlace}, DataW.LaidVars P W laid ps → ∀ (i : Nat) (n : String) (d : DataW Unit), laid[i]? = some (n, d) →
    ∃ g t cs fuel p, P.globalNamed n = some g ∧ (P.globals[g]?).map (·.type) = some t ∧ W.var? P n = some cs ∧ DataW.trod (fun _ => ()) P W 0 (fun _ => true) false fuel t cs.toList = some (d, p)
  | [], _, _, i, _, _, h => by simp at h
  | (m, c) :: r, ps, h, i, n, d, hi => by
    obtain ⟨g, t, cs, fuel, p, q, h1, h2, h3, h4, h5, _⟩ := h
    cases i with
    | zero =>
      simp only [List.getElem?_cons_zero, Option.some.injEq, Prod.mk.injEq] at hi
      obtain ⟨rfl, rfl⟩ := hi
      exact ⟨g, t, cs, fuel, p, h1, h2, h3, h4⟩
    | succ j => exact laidVars_at h5 j n d (by simpa using hi)
theorem tabIs_at {P : Program} {W : World} {laid : List (String × DataW Unit)} {name : String} {k : IntKind} {zs : List Int} {g : Nat} {t e : TypeId} {n : Nat} (i : Nat) (hi : laid[i]? = some (name, Lib.tabData k zs))
    (hg : P.globalNamed name = some g) (hty : (P.globals[g]?).map (·.type) = some t) (ht : P.underlying t = some (.array n e)) (he : P.underlying e = some (.int k)) (hce : P.cellsOf e = 1) (hct : P.cellsOf t = n)
    (h : laidMet P laid W) : Lib.TabIs P W name k zs := by
  obtain ⟨ps, h, _⟩ := h
  obtain ⟨g', t', cs, fuel, p, hg', ht', hvar, hd⟩ := laidVars_at h i _ _ hi
  obtain rfl := Option.some.inj (hg.symm.trans hg')
  obtain rfl := Option.some.inj (hty.symm.trans ht')
  unfold Lib.TabIs
  rw [hvar, ← Lib.cells_of_tab ht he hce hct hd]
def laidL : List (String × DataW Unit) := [("math/bits.deBruijn32tab", Rows.laid_math_bits_deBruijn32tab), ("math/bits.deBruijn64tab", Rows.laid_math_bits_deBruijn64tab), ("internal/strconv.uint64pow10", Rows.laid_internal_strconv_uint64pow10), ("unicode/utf8.acceptRanges", Rows.laid_unicode_utf8_acceptRanges), ("unicode/utf8.first", Rows.laid_unicode_utf8_first)]
theorem wok_of {W : World} (h : laidMetH Tryd.prog laidL W) (hs : W.ShapedOpen Tryd.prog) : WOK W := by
  rw [MakeChecks.laidMetH_plain _ _ _ (by kernel_rfl)] at h
  refine ⟨?_, ?_, ?_⟩
  · exact cell_of_shapedOpen_int (t := 3) (zero := #[.int .i64 0]) hs (by decide +kernel) (by kernel_rfl) (by kernel_rfl) (by kernel_rfl) (by kernel_rfl) Tryd.underlying3
  · exact tabIs_at (g := 1) (n := 20) 2 (by rfl) (by kernel_rfl) (t := 110) (by kernel_rfl) (by kernel_rfl) (e := 88) Tryd.underlying88 (by kernel_rfl) (by kernel_rfl) h
  · have hb : Lib.TabIs Tryd.prog W "math/bits.deBruijn64tab" .u8 (Lib.deBruijn64tab.map Int.ofNat) := tabIs_at (g := 5) (n := 64) 1 (by rfl) (by kernel_rfl) (t := 126) (by kernel_rfl) (by kernel_rfl) (e := 5) Tryd.underlying5 (by kernel_rfl) (by kernel_rfl) h
    intro j hj
    have h2 := hb.cell (g := 5) (by kernel_rfl) j (by rw [List.length_map]; exact hj)
    rw [h2, List.getD, List.getD, List.getElem?_map, List.getElem?_eq_getElem hj]
    rfl
set_option maxRecDepth 100000 in
theorem laid_world (os : Os) (args : Array Value) : laidMetH Tryd.prog laidL ((World.laidAll Tryd.prog os laidL).forCall (fun _ _ => 0) ⟨#[], args, []⟩).memory := by
  rw [MakeChecks.laidMetH_plain _ _ _ (by kernel_rfl)]
  exact laidMet_laidAll _ (by kernel_rfl) (by kernel_rfl)
end Go.Proofs.YtbimdjciacnioaaDoor.Q
end

section
namespace Go.Proofs.YtbimdjciacnioaaDoor.portsetParses
open Go.ChangeShapes Go.WideShapes Go.ChangeAt Go.RowKit Go.Proofs.YtbimdjciacnioaaDoorW.PrintWords Go.Proofs.YtbimdjciacnioaaDoor.Q
open Go.ChangeMaps (open_string shut_string)
set_option linter.unusedVariables false
theorem own : ownKnob Tryd.prog.godebug = none := by kernel_rfl
set_option maxRecDepth 100000 in
theorem lifted (os : Os) (started : os.Started) (H : Type) (enc : TypeId × Value → H) :
    ReturnsInHanded {} Tryd.checked os 3 .any (fun w args => (Rows.portsetParsesSpec.pre enc Tryd.prog Tryd.f3 Rows.portsetParsesRow.domain false w args ∧ laidMetH Tryd.prog laidL w) ∧ sizedMet enc Tryd.prog Tryd.f3 (OpenSpec.ofChange Rows.portsetParsesSpec) false w args) (Rows.portsetParsesSpec.post enc Tryd.prog Tryd.f3 false true false false) := by
  refine returns_laid (C := Tryd.checked) (X := (fun w _ => laidMetH Tryd.prog laidL w)) (fun _ _ _ hh h => h.of_heap hh) own started (by kernel_rfl) Tryd.func3
    (ChangeSpec.witness_shaped (enc := enc) (C := Tryd.checked) (os := os) (X := (fun w _ => laidMetH Tryd.prog laidL w)) false (World.laidAll Tryd.prog os laidL) #[.string ByteArray.empty] 8 (World.laidAll_os _ _ _)
      (World.shaped_of_ZipB (by kernel_rfl) (by kernel_rfl)) (by kernel_rfl) (by kernel_rfl) (by kernel_rfl) (laid_world os _)) ?_
  intro W base args ds gs before hval0 hW hcnd hsz0 hL hsh _
  have hWok := wok_of hL hsh
  have hsz : (DataW.weightsEach Tryd.prog (Tryd.f3.params.toList ++ Rows.portsetParsesSpec.plain.varTypes Tryd.prog) (ds ++ gs)).all (· ≤ reachBytes) = true := hsz0
  have hval : ∀ (j : Nat) t v, Tryd.f3.params[j]? = some t → args[j]? = some v → Value.okWide Tryd.prog W .any base t v := hval0
  have hW' := hW
  obtain ⟨p, q, hA0, hV, rfl, hfz, hnd⟩ := hW
  have hA : DataW.TrodAll enc Tryd.prog W 0 (fun _ => true) true Tryd.f3.params.toList args.toList ds p := hA0
  rw [Tryd.params3] at hA hval hsz
  obtain ⟨v0, vs0, d0, ds0, p0, q0, hargs, rfl, rfl, h0, r0⟩ := trodAll_cons hA
  obtain ⟨rfl, rfl, rfl⟩ := trodAll_nil r0
  obtain rfl : args = #[v0] := by cases args; simp_all
  obtain ⟨rfl, rfl⟩ := trodVars_none hV
  obtain ⟨a0, rfl, rfl, rfl, y0⟩ := open_string Tryd.underlying9 (hval 0 9 v0 rfl rfl) h0
  have w0 : a0.size ≤ 140737488351232 := by
    have z := sized_string hsz (j := 0) (t := 9) rfl rfl
    rw [Array.length_toList] at z
    exact z
  clear hA0 hval0 hsz0 hsz
  obtain ⟨k, hk⟩ := Pure.PortsetParses a0 w0
  refine (intrusionlaw08_PortsetParses.calls k a0 true W  hk hWok).mono fun e W' he => ?_
  obtain ⟨rfl, bel⟩ := he
  exact ⟨_, rfl, _, _, _, [], _, [], hW', trodAll_mk1 (shut_bool Tryd.underlying4 _), (trodAll_cons_mk (shut_string Tryd.underlying9 y0) trodAll_mk0), rfl, bel.frame _, fun h => by cases h⟩
theorem over : Rows.portsetParsesRow.holds Tryd.pinned (OpenSpec.ofChange Rows.portsetParsesSpec) :=
  OpenClaim.holds_of_wide 3 Tryd.f3 rfl rfl rfl rfl rfl rfl rfl ⟨rfl, rfl, rfl, rfl, rfl⟩ rfl rfl rfl rfl rfl (by kernel_rfl) Tryd.func3 (by kernel_rfl)
    (of_decide_eq_true (by kernel_rfl)) (by unfold Func.isWrapper; first | (rw [if_pos (by decide +kernel)]; kernel_rfl) | (rw [if_neg (by decide +kernel)]; exact ⟨rfl, rfl⟩))
    (fun os started H enc _ => lifted os started H enc)
theorem card : Rows.PortsetParsesCardSaid :=
  Claim7.holds_tied_plain_at .later [] [.data, .data, .data, .data, .pinned] true (true, "9aa0131f247035a0e78f96f5864c7c2e57b9ec42f65bc66587a77ae73f0f15cc") false over (fun _ h => by cases h) (by kernel_rfl) (fun _ h => by cases h) portsetParses_row_tie rfl ⟨rfl, rfl⟩ (by kernel_rfl) rfl
    (fun f fn hf hfn => by
      obtain rfl : f = 3 := Option.some.inj ((show Tryd.prog.funcNamed "intrusion/intrusionlaw08.PortsetParses" = some 3 by kernel_rfl).symm.trans hf) |>.symm
      obtain rfl : fn = Tryd.f3 := (Option.some.inj (Tryd.func3.symm.trans hfn)).symm
      exact ⟨by kernel_rfl, fun j t ht => by
        rw [Tryd.params3] at ht
        have hm : t ∈ [9] := by simpa using Array.mem_of_getElem? ht
        have hall : ([9].all fun u => !Tryd.prog.wantsStandIn u) = true := by kernel_rfl
        exact (show Tryd.prog.wantsStandIn t = false by simpa using List.all_eq_true.1 hall t hm)⟩)
    (by kernel_rfl)
#print axioms card
end Go.Proofs.YtbimdjciacnioaaDoor.portsetParses
namespace Go.Proofs.YtbimdjciacnioaaDoor
theorem portsetParses_holds : Rows.PortsetParsesCardSaid := portsetParses.card
end Go.Proofs.YtbimdjciacnioaaDoor
end
